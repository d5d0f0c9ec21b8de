/- What the card of the law stands on: FMul, Add64. -/
import Derived.Test.YtkclnhpofkaclaaGreatDoorRewriteFoldP04
import Derived.Test.YtkclnhpofkaclaaGreatDoorRewriteFoldP01
import Derived.Test.YtkclnhpofkaclaaGreatDoorRewriteFoldP19
import Derived.Test.YtkclnhpofkaclaaGreatDoorRewriteFoldP05
import Derived.Test.YtkclnhpofkaclaaGreatDoorRewriteFoldP07
import Derived.Test.YtkclnhpofkaclaaGreatDoorRewriteFoldP02
import Derived.Shelf.Spec.BitsCarry
set_option maxRecDepth 100000
set_option maxHeartbeats 12800000
set_option linter.unusedVariables false
set_option linter.unusedSimpArgs false
namespace Go.Proofs.YtkclnhpofkaclaaGreatDoor
open Go.RowKit Pl
theorem DC (n d:Int) (w:World) (hn:Ah n) (hd:Ah d):Calls Tryz.prog 86 #[.agg (AA n d).toArray] w fun e w'=>e= .returned (.bool (AU n d))∧A5 w w':=IK n d w hn hd
theorem Eu:(Tryz.prog.info? 113).map (·.size)=some 3:=by kernel_rfl
theorem rW:J3 113 3:=⟨Eu,_,Tryz.underlying113,rfl⟩
theorem Fx (z:Int):∀v∈Aq z,v.oneCell'=true:=by
 intro v hv;simp[Aq]at hv;rcases hv with rfl|rfl|rfl<;>rfl
theorem Hy (a:Int) (g:Nat) (hg:0<g):(a.tdiv (g:Int)).natAbs≤a.natAbs:=by
 rw[Int.natAbs_tdiv,Int.natAbs_natCast];exact Nat.div_le_self _ _
theorem IV (n1 d1 n2 d2:Int) (w:World) (hn1:Ah n1) (hd1:Ah d1) (hn2:Ah n2) (hd2:Ah d2):Calls Tryz.prog 57 #[.agg (AA n1 d1).toArray,.agg (AA n2 d2).toArray] w fun e w'=>e= .returned (BS (DE n1 d1 n2 d2))∧A5 w w':=by
 obtain⟨hb1,hb2,hb3,hG3⟩:=BO w 24 24 24 (AA n1 d1).toArray (AA n2 d2).toArray (AA 0 0).toArray;have HV1:=UX (fun w'=>DC n1 d1 w' hn1 hd1);have HV2:=UX (fun w'=>DC n2 d2 w' hn2 hd2);obtain⟨v1,hv1⟩:∃v:Bool,AU n1 d1=v:=⟨_,rfl⟩;obtain⟨v2,hv2⟩:∃v:Bool,AU n2 d2=v:=⟨_,rfl⟩;rw[hv1]at HV1;rw[hv2]at HV2;go_enter Tryz.func57,Tryz.ntmps57;go_upto_region 1 with fail;change Code.wp _ _ _ _ (((w.alloc (.cells (AA n1 d1).toArray 24)).alloc (.cells (AA n2 d2).toArray 24)).alloc (.cells (AA 0 0).toArray 24));generalize ((w.alloc (.cells (AA n1 d1).toArray 24)).alloc (.cells (AA n2 d2).toArray 24)).alloc (.cells (AA 0 0).toArray 24)=w3 at*;cases v1
 ·have HB:=UX (GY (n2:=n2) (d2:=d2) (.inl hv1));clear hv1 hv2;go_upto_region 2 with(first|(refine lN (.tmp 2) hb1 rF ?_)|(go_at_call 86;(with_reducible refine(HV1.out _).mono ?_);rintro e w4 ⟨rfl,k4⟩;have hc1:=hb1.grew k4;have hc2:=hb2.grew k4;have hc3:=hb3.grew k4;have hG4:=hG3.trans k4)|fail);have he3:=hc3;have hG5:=hG4;go_wp2_with(first|(refine sN (.tmp 4) (.tmp 19) (AA 0 0) he3 rF ?_;intro w8 hb8 k8 d8)|fail);refine rT rF hb8 ?_;rw[HB.out];exact⟨rfl,Uw hG5 k8 (fun i hi e=>by omega)⟩
 cases v2
 ·have HB:=UX (GY (n1:=n1) (d1:=d1) (.inr hv2));clear hv1 hv2;go_upto_region 2 with(first|(refine lN (.tmp 2) hb1 rF ?_)|(refine OT rfl 24 Tryz.underlying24 rfl (.tmp 3) (w.heap.size+1) (AA n2 d2) 24 C1 rfl rfl hc2 ?_)|(go_at_call 86;(with_reducible refine(HV1.out _).mono ?_);rintro e w4 ⟨rfl,k4⟩;have hc1:=hb1.grew k4;have hc2:=hb2.grew k4;have hc3:=hb3.grew k4;have hG4:=hG3.trans k4)|(go_at_call 86;(with_reducible refine(HV2.out _).mono ?_);rintro e w5 ⟨rfl,k5⟩;have he1:=hc1.grew k5;have he2:=hc2.grew k5;have he3:=hc3.grew k5;have hG5:=hG4.trans k5)|fail);go_wp2_with(first|(refine sN (.tmp 4) (.tmp 19) (AA 0 0) he3 rF ?_;intro w8 hb8 k8 d8)|fail);refine rT rF hb8 ?_;rw[HB.out];exact⟨rfl,Uw hG5 k8 (fun i hi e=>by omega)⟩
 go_upto_region 3 with(first|(refine lN (.tmp 2) hb1 rF ?_)|(refine OT rfl 24 Tryz.underlying24 rfl (.tmp 3) (w.heap.size+1) (AA n2 d2) 24 C1 rfl rfl hc2 ?_)|(go_at_call 86;(with_reducible refine(HV1.out _).mono ?_);rintro e w4 ⟨rfl,k4⟩;have hc1:=hb1.grew k4;have hc2:=hb2.grew k4;have hc3:=hb3.grew k4;have hG4:=hG3.trans k4)|(go_at_call 86;(with_reducible refine(HV2.out _).mono ?_);rintro e w5 ⟨rfl,k5⟩;have he1:=hc1.grew k5;have he2:=hc2.grew k5;have he3:=hc3.grew k5;have hG5:=hG4.trans k5)|fail);clear hb1 hb2 hb3 hG3 k4 hc1 hc2 hc3 hG4 k5 HV1 HV2;have HVV:=UX (UZ hv1 hv2);obtain⟨a1,a2,a3,a4,a5⟩:=B8 hv1;obtain⟨b1,b2,b3,b4,b5⟩:=B8 hv2;clear hv1 hv2 a5 b5;obtain⟨p,rfl⟩:∃p:Nat,d1=(p:Int):=⟨d1.toNat,by omega⟩;obtain⟨q,rfl⟩:∃q:Nat,d2=(q:Int):=⟨d2.toNat,by omega⟩;have HMR:=UX (R7 HVV.out.1 HVV.out.2);simp only[Int.toNat_natCast]at HMR;have c1:w5.cell? ⟨w.heap.size,0,none⟩=some (.int .i64 n1):=he1.cell 0;have c2:w5.cell? ⟨w.heap.size,1,none⟩=some (.int .i64 (p:Int)):=he1.cell 1;have c3:w5.cell? ⟨w.heap.size+1,0,none⟩=some (.int .i64 n2):=he2.cell 0;have c4:w5.cell? ⟨w.heap.size+1,1,none⟩=some (.int .i64 (q:Int)):=he2.cell 1;have HA1:=UX (fun w'=>GJ n1 w' (by omega) (by omega));have HA2:=UX (fun w'=>GJ n2 w' (by omega) (by omega));have HG1:=UX (fun w'=>Gj n1.natAbs q w' (by omega) (by omega));have HG2:=UX (fun w'=>Gj n2.natAbs p w' (by omega) (by omega));have hg0:0<n1.natAbs.gcd q:=Nat.gcd_pos_of_pos_right _ (by omega);have hh0:0<n2.natAbs.gcd p:=Nat.gcd_pos_of_pos_right _ (by omega);generalize n1.natAbs.gcd q=g at*;generalize n2.natAbs.gcd p=h at*;go_upto_region 3 with fail;go_quiet ((first|(go_at_call 96;first|with_reducible exact Calls.quiet_of_same (HA1.out _)|with_reducible exact Calls.quiet_of_same (HA2.out _))|(go_at_call 90;first|with_reducible exact Calls.quiet_of (HG1.out _)|with_reducible exact Calls.quiet_of (HG2.out _))));have m1:=he1.drewN nq;have m2:=he2.drewN nq;have m3:=he3.drewN nq;have hG6:=V1 hG5 nq;generalize w5.drewN nq=w6 at*;clear he1 he2 he3 hG5 c1 c2 c3 c4 HA1 HA2 HG1 HG2;have q0:¬(g:Int)=0:=by omega
 have q1:¬(h:Int)=0:=by omega
 have q2:¬g=0:=by omega
 have q3:¬h=0:=by omega
 have l1:=Hy n1 g hg0;have l2:=Hy n2 h hh0;have l3:=Hy (p:Int) h hh0;have l4:=Hy (q:Int) g hg0;have n3:0≤(p:Int).tdiv (h:Int):=Int.tdiv_nonneg (by omega) (by omega);have n4:0≤(q:Int).tdiv (g:Int):=Int.tdiv_nonneg (by omega) (by omega);generalize hx:n1.tdiv (g:Int)=x at*;generalize hy:n2.tdiv (h:Int)=y at*;generalize hs:(p:Int).tdiv (h:Int)=s at*;generalize ht:(q:Int).tdiv (g:Int)=t at*;have e1:IntKind.i64.wrap x=x:=IntWalk.i64_in _ (by omega);have e2:IntKind.i64.wrap y=y:=IntWalk.i64_in _ (by omega);have e3:IntKind.i64.wrap s=s:=IntWalk.i64_in _ (by omega);have e4:IntKind.i64.wrap t=t:=IntWalk.i64_in _ (by omega);have HP1:=UX (fun w'=>E9 x y w' (by omega) (by omega) (by omega) (by omega));have HP2:=UX (fun w'=>E9 s t w' (by omega) (by omega) (by omega) (by omega));have HD0:Hid (0≤s*t):=UX (Int.mul_nonneg n3 n4);generalize x*y=N at*;generalize s*t=D at*;clear l1 l2 l3 l4 n3 n4 hg0 hh0 hn1 hn2 hd1 hd2 a1 a2 a3 a4 b1 b2 b3 b4;have HS:=UX (show ∀w',A5 w6.drew w'→w'.cell? ⟨w.heap.size,0,none⟩=some (.int .i64 n1)∧w'.cell? ⟨w.heap.size,1,none⟩=some (.int .i64 (p:Int))∧w'.cell? ⟨w.heap.size+1,0,none⟩=some (.int .i64 n2)∧w'.cell? ⟨w.heap.size+1,1,none⟩=some (.int .i64 (q:Int))from fun w' g=>⟨((m1.drewN 1).grew g).cell 0,((m1.drewN 1).grew g).cell 1,((m2.drewN 1).grew g).cell 0,((m2.drewN 1).grew g).cell 1⟩);go_upto_region 4 with fail;refine BU (by kernel_rfl) 10 9 8 [.pointer (some ⟨w.heap.size,0,none⟩),.int .i64 n1,.int .i64 (g:Int),.int .i64 x,.pointer (some ⟨w.heap.size+1,0,none⟩),.int .i64 n2,.int .i64 (h:Int),.int .i64 y,.agg (Aq N).toArray,undef] 113 [.int .u64 0,.int .u64 0,.bool false] _ (by kernel_rfl) (by kernel_rfl) (by decide) (by rfl) rfl (Ui (by kernel_rfl)) (by kernel_rfl) ?hH1 ?hal1 (Aq N) (.tmp 8) (.tmp 40) 113 _ rfl rfl rfl rfl Eu rfl (Fx _) (fun z=>by kernel_rfl) (fun z=>by kernel_rfl) (by kernel_rfl) (by kernel_rfl) ?hT1
 case hH1=>
  simp only[ny];refine hQ (AC (fun z w' hg=>?_) ?_)
  ·obtain⟨c1,c2,c3,c4⟩:=HS.out _ hg;go_simp;exact Uv _
  refine hQ (hQ (hQ (AC (fun z w' hg=>?_) ?_)))
  ·obtain⟨c1,c2,c3,c4⟩:=HS.out _ hg;go_simp;exact Uv _
  exact hQ (hQ (Dc (fun w' hg=>HP1.out _) (BV Aj)))
 case hal1=>
  intro o ho a1 w1 K hK;obtain rfl:=Uf ho;go_simp;exact hK _ rfl
 case hT1=>
  intro z wz hz hbz hgz;simp only[ny];have h1:=m1.grew hgz;have h2:=m2.grew hgz;have h3:=m3.grew hgz;have hG7:=hG6.trans hgz;clear m1 m2 m3 hG6 hgz HS hz;generalize hz8:z=z8 at*;clear hz8;have b8:=hbz;clear hbz;have HS:=UX (show ∀w',A5 wz.drew w'→w'.cell? ⟨w.heap.size,0,none⟩=some (.int .i64 n1)∧w'.cell? ⟨w.heap.size,1,none⟩=some (.int .i64 (p:Int))∧w'.cell? ⟨w.heap.size+1,0,none⟩=some (.int .i64 n2)∧w'.cell? ⟨w.heap.size+1,1,none⟩=some (.int .i64 (q:Int))from fun w' g=>⟨((h1.drewN 1).grew g).cell 0,((h1.drewN 1).grew g).cell 1,((h2.drewN 1).grew g).cell 0,((h2.drewN 1).grew g).cell 1⟩);go_upto_region 5 with fail;refine BU (by kernel_rfl) 10 9 9 [.pointer (some ⟨w.heap.size,1,none⟩),.int .i64 (p:Int),.int .i64 (h:Int),.int .i64 s,.pointer (some ⟨w.heap.size+1,1,none⟩),.int .i64 (q:Int),.int .i64 (g:Int),.int .i64 t,.agg (Aq D).toArray,undef] 113 [.int .u64 0,.int .u64 0,.bool false] _ (by kernel_rfl) (by kernel_rfl) (by decide) (by rfl) rfl (Ui (by kernel_rfl)) (by kernel_rfl) ?hH2 ?hal2 (Aq D) (.tmp 9) (.tmp 49) 113 _ rfl rfl rfl rfl Eu rfl (Fx _) (fun z=>by kernel_rfl) (fun z=>by kernel_rfl) (by kernel_rfl) (by kernel_rfl) ?hT2
  case hH2=>
   simp only[ny];refine hQ (AC (fun z w' hg=>?_) ?_)
   ·obtain⟨c1,c2,c3,c4⟩:=HS.out _ hg;go_simp;exact Uv _
   refine hQ (hQ (hQ (AC (fun z w' hg=>?_) ?_)))
   ·obtain⟨c1,c2,c3,c4⟩:=HS.out _ hg;go_simp;exact Uv _
   exact hQ (hQ (Dc (fun w' hg=>HP2.out _) (BV Aj)))
  case hal2=>
   intro o ho a1 w1 K hK;obtain rfl:=Uf ho;go_simp;exact hK _ rfl
  case hT2=>
   intro z wy hz hbz hgz;simp only[ny];have h6:=h3.grew hgz;have b8:=b8.grew hgz;have hG8:=hG7.trans hgz;clear h1 h2 h3 hG7 hgz HS hz HP1 HP2 e1 e2 e3 e4 q0 q1 q2 q3 hx hy hs ht;generalize hz9:z=z9 at*;clear hz9;have b9:=hbz;clear hbz;have hlo1:N.natAbs%18446744073709551616<18446744073709551616:=Nat.mod_lt _ (by decide);have hlo2:D.natAbs%18446744073709551616<18446744073709551616:=Nat.mod_lt _ (by decide);have hdm1:=Nat.div_add_mod N.natAbs 18446744073709551616;have hdm2:=Nat.div_add_mod D.natAbs 18446744073709551616;have c5:wy.cell? ⟨z8,0,none⟩=some (.int .u64 ((N.natAbs/18446744073709551616:Nat):Int)):=b8.cell 0;have c6:wy.cell? ⟨z8,1,none⟩=some (.int .u64 ((N.natAbs%18446744073709551616:Nat):Int)):=b8.cell 1;have c7:wy.cell? ⟨z8,2,none⟩=some (.bool (decide (N<0))):=b8.cell 2;have c8:wy.cell? ⟨z9,0,none⟩=some (.int .u64 ((D.natAbs/18446744073709551616:Nat):Int)):=b9.cell 0;have c9:wy.cell? ⟨z9,1,none⟩=some (.int .u64 ((D.natAbs%18446744073709551616:Nat):Int)):=b9.cell 1;clear b8 b9;generalize N.natAbs/18446744073709551616=hi1 at*;generalize N.natAbs%18446744073709551616=lo1 at*;generalize D.natAbs/18446744073709551616=hi2 at*;generalize D.natAbs%18446744073709551616=lo2 at*;obtain⟨sg,hsg⟩:∃b:Bool,decide (N<0)=b:=⟨_,rfl⟩;rw[hsg]at c7;by_cases k1:hi1=0
   case neg=>
    have u1:((hi1:Int)==0)=false:=by rw[UY];omega
    have u2:((hi1:Int) !=0)=true:=by simp;omega
    have HB:Hid (DE n1 p n2 q=(0,0,5)):=UX (by rw[HMR.out,Un];omega);clear hdm1 hdm2 hlo1 hlo2;go_wp2_with(first|(refine sN (.tmp 4) (.tmp 68) (AA 0 0) h6 rF ?_;intro w8 hb8 k8 d8)|fail);refine rT rF hb8 ?_;rw[HB.out];exact⟨rfl,Uw hG8 k8 (fun i hi e=>by omega)⟩
   have u1:((hi1:Int)==0)=true:=by rw[Ud];omega
   have u2:((hi1:Int) !=0)=false:=by simp;omega
   by_cases k2:4611686018427387904<lo1
   case pos=>
    have u3:decide ((4611686018427387904:Int)<(lo1:Int))=true:=by simp;omega
    have HB:Hid (DE n1 p n2 q=(0,0,5)):=UX (by rw[HMR.out,Un];omega);clear hdm1 hdm2 hlo1 hlo2;go_wp2_with(first|(refine sN (.tmp 4) (.tmp 68) (AA 0 0) h6 rF ?_;intro w8 hb8 k8 d8)|fail);refine rT rF hb8 ?_;rw[HB.out];exact⟨rfl,Uw hG8 k8 (fun i hi e=>by omega)⟩
   have u3:decide ((4611686018427387904:Int)<(lo1:Int))=false:=by simp;omega
   by_cases k3:hi2=0
   case neg=>
    have u4:((hi2:Int)==0)=false:=by rw[UY];omega
    have u5:((hi2:Int) !=0)=true:=by simp;omega
    have HB:Hid (DE n1 p n2 q=(0,0,5)):=UX (by rw[HMR.out,Un];omega);clear hdm1 hdm2 hlo1 hlo2;go_wp2_with(first|(refine sN (.tmp 4) (.tmp 68) (AA 0 0) h6 rF ?_;intro w8 hb8 k8 d8)|fail);refine rT rF hb8 ?_;rw[HB.out];exact⟨rfl,Uw hG8 k8 (fun i hi e=>by omega)⟩
   have u4:((hi2:Int)==0)=true:=by rw[Ud];omega
   have u5:((hi2:Int) !=0)=false:=by simp;omega
   by_cases k4:4611686018427387904<lo2
   case pos=>
    have u6:decide ((4611686018427387904:Int)<(lo2:Int))=true:=by simp;omega
    have HB:Hid (DE n1 p n2 q=(0,0,5)):=UX (by rw[HMR.out,Un];omega);clear hdm1 hdm2 hlo1 hlo2;go_wp2_with(first|(refine sN (.tmp 4) (.tmp 68) (AA 0 0) h6 rF ?_;intro w8 hb8 k8 d8)|fail);refine rT rF hb8 ?_;rw[HB.out];exact⟨rfl,Uw hG8 k8 (fun i hi e=>by omega)⟩
   have u6:decide ((4611686018427387904:Int)<(lo2:Int))=false:=by simp;omega
   have HB:Hid (DE n1 p n2 q=(N,D,0)):=UX (by rw[HMR.out,Uo];omega);have HD2:Hid (D=(lo2:Int)):=UX (by have:=HD0.out;omega);have v1:IntKind.i64.wrap (lo1:Int)=(lo1:Int):=IntWalk.i64_in _ (by omega);have v2:IntKind.i64.wrap (-(lo1:Int))= -(lo1:Int):=IntWalk.i64_in _ (by omega);have v3:IntKind.i64.wrap (lo2:Int)=(lo2:Int):=IntWalk.i64_in _ (by omega);cases sg
   ·have HN2:Hid (N=(lo1:Int)):=UX (by have:=of_decide_eq_false hsg;omega);clear hsg k1 k2 k3 k4 hdm1 hdm2 hlo1 hlo2;go_wp2_with(first|(refine sN (.tmp 4) (.tmp 80) (AA (lo1:Int) (lo2:Int)) h6 rF ?_;intro w8 hb8 k8 d8)|fail);refine rT rF hb8 ?_;rw[HB.out,HN2.out,HD2.out];exact⟨rfl,Uw hG8 k8 (fun i hi e=>by omega)⟩
   have HN2:Hid (N= -(lo1:Int)):=UX (by have:=Ui hsg;omega);clear hsg k1 k2 k3 k4 hdm1 hdm2 hlo1 hlo2;go_wp2_with(first|(refine sN (.tmp 4) (.tmp 80) (AA (-(lo1:Int)) (lo2:Int)) h6 rF ?_;intro w8 hb8 k8 d8)|fail);refine rT rF hb8 ?_;rw[HB.out,HN2.out,HD2.out];exact⟨rfl,Uw hG8 k8 (fun i hi e=>by omega)⟩
end Go.Proofs.YtkclnhpofkaclaaGreatDoor
namespace Go.Proofs.YtkclnhpofkaclaaGreatDoor
open Go.Shelf Go.RowKit Pl
def JT:Go.Shelf.Ren:=⟨fun|25=>129|26=>130|n=>n,fun|_=>111,fun|n=>n⟩
theorem SF:Go.Proofs.Lays7.n25 Tryz.prog JT:={
 mixed:=by kernel_rfl
 f25:=Tryz.func129.trans (congrArg some (by kernel_rfl))
 t22:=Tryz.underlying111
 a22:=Tryz.isAgg111
 z22:=Tryz.sizeOf111
 v22:=Tryz.zeroValue111
 i22:=by kernel_rfl }
theorem Rg:Go.Proofs.Lays7.n26 Tryz.prog JT:={
 mixed:=by kernel_rfl
 f26:=Tryz.func130.trans (congrArg some (by kernel_rfl))
 t22:=Tryz.underlying111
 a22:=Tryz.isAgg111
 z22:=Tryz.sizeOf111
 v22:=Tryz.zeroValue111
 i22:=by kernel_rfl }
theorem JS (x y c:Nat) (hc:c≤1) (w:World):
  (callFunc 129 #[.int .u64 (x:Nat),.int .u64 (y:Nat),.int .u64 (c:Nat)]).run Tryz.prog w= .ok (.value (.tuple #[.int .u64 (((x+y+c)%18446744073709551616:Nat):Int),.int .u64 (((x+y+c)/18446744073709551616:Nat):Int)])) w:=
 Go.Proofs.Any7.bits_Add64 SF x y c hc w
theorem BK (x y b:Nat) (hb:b≤1) (w:World):
  (callFunc 130 #[.int .u64 (x:Nat),.int .u64 (y:Nat),.int .u64 (b:Nat)]).run Tryz.prog w= .ok (.value (.tuple #[.int .u64 (((x+18446744073709551616-y-b)%18446744073709551616:Nat):Int),.int .u64 ((if x<y+b then 1 else 0:Nat):Int)])) w:=
 Go.Proofs.Any7.bits_Sub64 Rg x y b hb w
end Go.Proofs.YtkclnhpofkaclaaGreatDoor
