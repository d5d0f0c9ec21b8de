/- What the card of the law stands on: Prod, FMul, Add64. -/
import Derived.Test.YthpflelgbadkcaaGreatDoorRewriteReadsP10
import Derived.Test.YthpflelgbadkcaaGreatDoorRewriteReadsP01
import Derived.Test.YthpflelgbadkcaaGreatDoorRewriteReadsP02
import Derived.Test.YthpflelgbadkcaaGreatDoorRewriteReadsP03
import Derived.Shelf.Spec.BitsCarry
set_option maxRecDepth 100000
set_option maxHeartbeats 12800000
set_option linter.unusedVariables false
set_option linter.unusedSimpArgs false
namespace Go.Proofs.YthpflelgbadkcaaGreatDoor
open Go.RowKit Pl
theorem JX (n:Nat) (h:n<18446744073709551616):IntKind.u64.wrap (n:Int)=(n:Int):=by
 show(n:Int)%2^64=(n:Int);omega
theorem Ac {fn:Func} {p:Tmp} {ty:TypeId} (h:fn.results=#[.cell p ty]) {tmps:Array Value} {w:World} {g:Nat} {vs:List Value} {t:TypeId} (hp:tmps.getD p undef= .pointer (some ⟨g,0,none⟩)) (hT:(Tryz.prog.info? ty).map (·.size)=some vs.length) {d:TypeDesc} (hu:Tryz.prog.underlying ty=some d) (hd:d.isRow=true) (hb:Ag w g t vs.toArray):
  (results fn tmps).run Tryz.prog w= .ok (.agg vs.toArray) w:=by
 have hl:=run_loadVar_mid (P:=Tryz.prog) w g 0 ty vs d (hb.rangeN 0 vs (by simp)) hu hd hT;simp only[results,h];rw[Array.getD_eq_getD_getElem?]at hp;simp[hp,hl,asAddr]
def B4 (z:Int):List Value:=[.int .u64 ((z.natAbs/18446744073709551616:Nat):Int),.int .u64 ((z.natAbs%18446744073709551616:Nat):Int),.bool (decide (z<0))]
theorem NQ {a b:Int} (h:¬a*b=0):(decide (a<0) !=decide (b<0))=decide (a*b<0):=by
 have ha:a≠0:=fun e=>h (by rw[e,Int.zero_mul])
 have hb:b≠0:=fun e=>h (by rw[e,Int.mul_zero])
 rcases Int.lt_or_gt_of_ne ha with h1|h1<;>rcases Int.lt_or_gt_of_ne hb with h2|h2
 ·have:0<a*b:=Int.mul_pos_of_neg_of_neg h1 h2;simp[h1,h2];omega
 ·have:a*b<0:=Int.mul_neg_of_neg_of_pos h1 h2;simp[h1,this];omega
 ·have:a*b<0:=Int.mul_neg_of_pos_of_neg h1 h2;simp[h2,this];omega
 have:0<a*b:=Int.mul_pos h1 h2;simp[Int.not_lt.mpr (Int.le_of_lt h1),Int.not_lt.mpr (Int.le_of_lt h2)];omega
theorem E3 (a b:Int) (w:World) (ha: -9223372036854775808<a) (ha2:a≤9223372036854775807) (hb: -9223372036854775808<b) (hb2:b≤9223372036854775807):
  Calls Tryz.prog 120 #[.int .i64 a,.int .i64 b] w fun e w'=>e= .returned (.agg (B4 (a*b)).toArray)∧A5 w w':=by
 have hbx:=Sc w 169 #[.int .u64 0,.int .u64 0,.bool false];have HG:=S9 ((Sa w).alloc (.cells #[.int .u64 0,.int .u64 0,.bool false] 169));have HA:=S9 (fun w'=>GT a w' (by omega) (by omega));have HB:=S9 (fun w'=>GT b w' (by omega) (by omega));have hp:a.natAbs*b.natAbs=(a*b).natAbs:=(Int.natAbs_mul a b).symm;have hm:=fun w'=>JZ a.natAbs b.natAbs (by omega) (by omega) w'
 obtain⟨hi,hhi⟩:∃hi:Nat,(a*b).natAbs/18446744073709551616=hi:=⟨_,rfl⟩;obtain⟨lo,hlo⟩:∃lo:Nat,(a*b).natAbs%18446744073709551616=lo:=⟨_,rfl⟩;simp only[hp,hhi,hlo]at hm;have HM:=S9 hm;have HI:=S9 hhi;have HL:=S9 hlo;clear hp hm hhi hlo;have wa:IntKind.u64.wrap ((a.natAbs:Nat):Int)=((a.natAbs:Nat):Int):=JX _ (by omega);have wb:IntKind.u64.wrap ((b.natAbs:Nat):Int)=((b.natAbs:Nat):Int):=JX _ (by omega);go_enter Tryz.func120,Tryz.ntmps120;go_upto_region 1 with fail;generalize w.alloc (.cells #[.int .u64 0,.int .u64 0,.bool false] 169)=w1 at*;go_upto_region 2 with(first|(go_at_call 119;refine(HA.out _).mono ?_;rintro e w' ⟨rfl,hw⟩;rw[hw];clear hw)|(go_at_call 119;refine(HB.out _).mono ?_;rintro e w' ⟨rfl,hw⟩;rw[hw];clear hw)|(go_at_call 118;refine(HM.out _).mono ?_;rintro e w' ⟨rfl,hw⟩;rw[hw];clear hw));clear wa wb;have hhi:=HI.out;have hlo:=HL.out;by_cases h0:a*b=0
 ·obtain rfl:hi=0:=by rw[h0]at hhi;exact hhi.symm
  obtain rfl:lo=0:=by rw[h0]at hlo;exact hlo.symm
  clear hhi hlo HI HL;have H0:=S9 h0;clear h0;go_wp2_with(refine Ar 169 (.tmp 4) (.tmp 23) w.heap.size [.int .u64 0,.int .u64 0,.bool false] [.int .u64 0,.int .u64 0,.bool false] 169 (by kernel_rfl) rfl (by intro v hv;simp at hv;rcases hv with rfl|rfl<;>rfl) rfl rfl rfl rfl hbx ?_;intro w3 bx3 k3 d3;have r3:=bx3.rangeN 0 [.int .u64 0,.int .u64 0,.bool false] (by simp));refine bodyPost_ret (v:= .agg (B4 0).toArray) (Ac rfl rfl (by kernel_rfl) Tryz.underlying169 rfl bx3) rfl ?_;rw[H0.out];exact⟨rfl,Sb HG.out k3 (fun i hi e=>by omega)⟩
 have HN:=S9 (NQ h0);have hz:(a*b).natAbs≠0:=by omega
 have HW:Hid (B4 (a*b)=[.int .u64 (hi:Nat),.int .u64 (lo:Nat),.bool (decide (a*b<0))]):=S9 (by unfold B4;rw[hhi,hlo]);generalize (a*b).natAbs=z at*;clear h0;obtain⟨sa,hsa⟩:∃s:Bool,decide (a<0)=s:=⟨_,rfl⟩;obtain⟨sb,hsb⟩:∃s:Bool,decide (b<0)=s:=⟨_,rfl⟩;rw[hsa,hsb]at HN;by_cases h1:hi=0
 ·have t1:((hi:Int)==0)=true:=by rw[SG];omega
  have t2:((lo:Int)==0)=false:=by rw[SA];omega
  clear h1 hhi hlo;go_wp2_with(refine Ar 169 (.tmp 4) (.tmp 31) w.heap.size [.int .u64 (hi:Nat),.int .u64 (lo:Nat),.bool (sa !=sb)] [.int .u64 0,.int .u64 0,.bool false] 169 (by kernel_rfl) rfl (by intro v hv;simp at hv;rcases hv with rfl|rfl|rfl<;>rfl) rfl rfl rfl rfl hbx ?_;intro w3 bx3 k3 d3);refine bodyPost_ret (Ac rfl rfl (by kernel_rfl) Tryz.underlying169 rfl bx3) rfl ?_;rw[HW.out,←HN.out];exact⟨rfl,Sb HG.out k3 (fun i hi e=>by omega)⟩
 have t1:((hi:Int)==0)=false:=by rw[SA];omega
 clear h1 hhi hlo;go_wp2_with(refine Ar 169 (.tmp 4) (.tmp 31) w.heap.size [.int .u64 (hi:Nat),.int .u64 (lo:Nat),.bool (sa !=sb)] [.int .u64 0,.int .u64 0,.bool false] 169 (by kernel_rfl) rfl (by intro v hv;simp at hv;rcases hv with rfl|rfl|rfl<;>rfl) rfl rfl rfl rfl hbx ?_;intro w3 bx3 k3 d3);refine bodyPost_ret (Ac rfl rfl (by kernel_rfl) Tryz.underlying169 rfl bx3) rfl ?_;rw[HW.out,←HN.out];exact⟨rfl,Sb HG.out k3 (fun i hi e=>by omega)⟩
theorem DM (n d:Int) (w:World) (hn:Bc n) (hd:Bc d):Calls Tryz.prog 92 #[.agg (AN n d).toArray] w fun e w'=>e= .returned (.bool (B2 n d))∧A5 w w':=Im n d w hn hd
theorem Ap:(Tryz.prog.info? 169).map (·.size)=some 3:=by kernel_rfl
theorem Bg (z:Int):∀v∈B4 z,v.oneCell'=true:=by
 intro v hv;simp[B4]at hv;rcases hv with rfl|rfl|rfl<;>rfl
theorem I3 (a:Int) (g:Nat) (hg:0<g):(a.tdiv (g:Int)).natAbs≤a.natAbs:=by
 rw[Int.natAbs_tdiv,Int.natAbs_natCast];exact Nat.div_le_self _ _
theorem IK (n1 d1 n2 d2:Int) (w:World) (hn1:Bc n1) (hd1:Bc d1) (hn2:Bc n2) (hd2:Bc d2):Calls Tryz.prog 83 #[.agg (AN n1 d1).toArray,.agg (AN n2 d2).toArray] w fun e w'=>e= .returned (FM (Dy n1 d1 n2 d2))∧A5 w w':=by
 obtain⟨hb1,hb2,hb3,hG3⟩:=Cb w 24 24 24 (AN n1 d1).toArray (AN n2 d2).toArray (AN 0 0).toArray;have HV1:=S9 (fun w'=>DM n1 d1 w' hn1 hd1);have HV2:=S9 (fun w'=>DM n2 d2 w' hn2 hd2);obtain⟨v1,hv1⟩:∃v:Bool,B2 n1 d1=v:=⟨_,rfl⟩;obtain⟨v2,hv2⟩:∃v:Bool,B2 n2 d2=v:=⟨_,rfl⟩;rw[hv1]at HV1;rw[hv2]at HV2;go_enter Tryz.func83,Tryz.ntmps83;go_upto_region 1 with fail;change Code.wp _ _ _ _ (((w.alloc (.cells (AN n1 d1).toArray 24)).alloc (.cells (AN n2 d2).toArray 24)).alloc (.cells (AN 0 0).toArray 24));generalize ((w.alloc (.cells (AN n1 d1).toArray 24)).alloc (.cells (AN n2 d2).toArray 24)).alloc (.cells (AN 0 0).toArray 24)=w3 at*;cases v1
 ·have HB:=S9 (Le (n2:=n2) (d2:=d2) (.inl hv1));clear hv1 hv2;go_upto_region 2 with(first|(refine BR 24 Tryz.underlying24 rfl (.tmp 2) (w.heap.size) (AN n1 d1) 24 Ad rfl rfl rfl hb1 ?_)|(go_at_call 92;(with_reducible refine(HV1.out _).mono ?_);rintro e w4 ⟨rfl,k4⟩;have hc1:=hb1.grew k4;have hc2:=hb2.grew k4;have hc3:=hb3.grew k4;have hG4:=hG3.trans k4));have he3:=hc3;have hG5:=hG4;go_wp2_with(refine Ar 24 (.tmp 4) (.tmp 19) (w.heap.size+1+1) (AN 0 0) (AN 0 0) 24 Ad rfl (Az _ _) rfl rfl rfl rfl he3 ?_;intro w8 hb8 k8 d8);refine bodyPost_ret (Aj rfl rfl rfl Ad Tryz.underlying24 rfl hb8) rfl ?_;rw[HB.out];exact⟨rfl,Sb hG5 k8 (fun i hi e=>by omega)⟩
 cases v2
 ·have HB:=S9 (Le (n1:=n1) (d1:=d1) (.inr hv2));clear hv1 hv2;go_upto_region 2 with(first|(refine BR 24 Tryz.underlying24 rfl (.tmp 2) (w.heap.size) (AN n1 d1) 24 Ad rfl rfl rfl hb1 ?_)|(refine Pv rfl 24 Tryz.underlying24 rfl (.tmp 3) (w.heap.size+1) (AN n2 d2) 24 Ad rfl rfl hc2 ?_)|(go_at_call 92;(with_reducible refine(HV1.out _).mono ?_);rintro e w4 ⟨rfl,k4⟩;have hc1:=hb1.grew k4;have hc2:=hb2.grew k4;have hc3:=hb3.grew k4;have hG4:=hG3.trans k4)|(go_at_call 92;(with_reducible refine(HV2.out _).mono ?_);rintro e w5 ⟨rfl,k5⟩;have he1:=hc1.grew k5;have he2:=hc2.grew k5;have he3:=hc3.grew k5;have hG5:=hG4.trans k5));go_wp2_with(refine Ar 24 (.tmp 4) (.tmp 19) (w.heap.size+1+1) (AN 0 0) (AN 0 0) 24 Ad rfl (Az _ _) rfl rfl rfl rfl he3 ?_;intro w8 hb8 k8 d8);refine bodyPost_ret (Aj rfl rfl rfl Ad Tryz.underlying24 rfl hb8) rfl ?_;rw[HB.out];exact⟨rfl,Sb hG5 k8 (fun i hi e=>by omega)⟩
 go_upto_region 3 with(first|(refine BR 24 Tryz.underlying24 rfl (.tmp 2) (w.heap.size) (AN n1 d1) 24 Ad rfl rfl rfl hb1 ?_)|(refine Pv rfl 24 Tryz.underlying24 rfl (.tmp 3) (w.heap.size+1) (AN n2 d2) 24 Ad rfl rfl hc2 ?_)|(go_at_call 92;(with_reducible refine(HV1.out _).mono ?_);rintro e w4 ⟨rfl,k4⟩;have hc1:=hb1.grew k4;have hc2:=hb2.grew k4;have hc3:=hb3.grew k4;have hG4:=hG3.trans k4)|(go_at_call 92;(with_reducible refine(HV2.out _).mono ?_);rintro e w5 ⟨rfl,k5⟩;have he1:=hc1.grew k5;have he2:=hc2.grew k5;have he3:=hc3.grew k5;have hG5:=hG4.trans k5));clear hb1 hb2 hb3 hG3 k4 hc1 hc2 hc3 hG4 k5 HV1 HV2;have HVV:=S9 (SC hv1 hv2);obtain⟨a1,a2,a3,a4,a5⟩:=BT hv1;obtain⟨b1,b2,b3,b4,b5⟩:=BT hv2;clear hv1 hv2 a5 b5;obtain⟨p,rfl⟩:∃p:Nat,d1=(p:Int):=⟨d1.toNat,by omega⟩;obtain⟨q,rfl⟩:∃q:Nat,d2=(q:Int):=⟨d2.toNat,by omega⟩;have HMR:=S9 (QL HVV.out.1 HVV.out.2);simp only[Int.toNat_natCast]at HMR;have c1:w5.cell? ⟨w.heap.size,0,none⟩=some (.int .i64 n1):=he1.cell 0;have c2:w5.cell? ⟨w.heap.size,1,none⟩=some (.int .i64 (p:Int)):=he1.cell 1;have c3:w5.cell? ⟨w.heap.size+1,0,none⟩=some (.int .i64 n2):=he2.cell 0;have c4:w5.cell? ⟨w.heap.size+1,1,none⟩=some (.int .i64 (q:Int)):=he2.cell 1;have HA1:=S9 (fun w'=>GT n1 w' (by omega) (by omega));have HA2:=S9 (fun w'=>GT n2 w' (by omega) (by omega));have HG1:=S9 (fun w'=>GR n1.natAbs q w' (by omega) (by omega));have HG2:=S9 (fun w'=>GR n2.natAbs p w' (by omega) (by omega));have hg0:0<n1.natAbs.gcd q:=Nat.gcd_pos_of_pos_right _ (by omega);have hh0:0<n2.natAbs.gcd p:=Nat.gcd_pos_of_pos_right _ (by omega);generalize n1.natAbs.gcd q=g at*;generalize n2.natAbs.gcd p=h at*;go_upto_region 3 with fail;go_quiet ((first|(go_at_call 119;first|with_reducible exact Calls.quiet_of_same (HA1.out _)|with_reducible exact Calls.quiet_of_same (HA2.out _))|(go_at_call 113;first|with_reducible exact Calls.quiet_of (HG1.out _)|with_reducible exact Calls.quiet_of (HG2.out _))));have m1:=he1.drewN nq;have m2:=he2.drewN nq;have m3:=he3.drewN nq;have hG6:=Sg hG5 nq;generalize w5.drewN nq=w6 at*;clear he1 he2 he3 hG5 c1 c2 c3 c4 HA1 HA2 HG1 HG2;have q0:¬(g:Int)=0:=by omega
 have q1:¬(h:Int)=0:=by omega
 have q2:¬g=0:=by omega
 have q3:¬h=0:=by omega
 have l1:=I3 n1 g hg0;have l2:=I3 n2 h hh0;have l3:=I3 (p:Int) h hh0;have l4:=I3 (q:Int) g hg0;have n3:0≤(p:Int).tdiv (h:Int):=Int.tdiv_nonneg (by omega) (by omega);have n4:0≤(q:Int).tdiv (g:Int):=Int.tdiv_nonneg (by omega) (by omega);generalize hx:n1.tdiv (g:Int)=x at*;generalize hy:n2.tdiv (h:Int)=y at*;generalize hs:(p:Int).tdiv (h:Int)=s at*;generalize ht:(q:Int).tdiv (g:Int)=t at*;have e1:IntKind.i64.wrap x=x:=IntWalk.i64_in _ (by omega);have e2:IntKind.i64.wrap y=y:=IntWalk.i64_in _ (by omega);have e3:IntKind.i64.wrap s=s:=IntWalk.i64_in _ (by omega);have e4:IntKind.i64.wrap t=t:=IntWalk.i64_in _ (by omega);have HP1:=S9 (fun w'=>E3 x y w' (by omega) (by omega) (by omega) (by omega));have HP2:=S9 (fun w'=>E3 s t w' (by omega) (by omega) (by omega) (by omega));have HD0:Hid (0≤s*t):=S9 (Int.mul_nonneg n3 n4);generalize x*y=N at*;generalize s*t=D at*;clear l1 l2 l3 l4 n3 n4 hg0 hh0 hn1 hn2 hd1 hd2 a1 a2 a3 a4 b1 b2 b3 b4;have HS:=S9 (show ∀w',A5 w6.drew w'→w'.cell? ⟨w.heap.size,0,none⟩=some (.int .i64 n1)∧w'.cell? ⟨w.heap.size,1,none⟩=some (.int .i64 (p:Int))∧w'.cell? ⟨w.heap.size+1,0,none⟩=some (.int .i64 n2)∧w'.cell? ⟨w.heap.size+1,1,none⟩=some (.int .i64 (q:Int))from fun w' g=>⟨((m1.drewN 1).grew g).cell 0,((m1.drewN 1).grew g).cell 1,((m2.drewN 1).grew g).cell 0,((m2.drewN 1).grew g).cell 1⟩);go_upto_region 4 with fail;refine FC (by kernel_rfl) 10 9 8 [.pointer (some ⟨w.heap.size,0,none⟩),.int .i64 n1,.int .i64 (g:Int),.int .i64 x,.pointer (some ⟨w.heap.size+1,0,none⟩),.int .i64 n2,.int .i64 (h:Int),.int .i64 y,.agg (B4 N).toArray,undef] 169 [.int .u64 0,.int .u64 0,.bool false] _ (by kernel_rfl) (by kernel_rfl) (by decide) (by rfl) rfl (SL (by kernel_rfl)) (by kernel_rfl) ?hH1 ?hal1 (B4 N) (.tmp 8) (.tmp 40) 169 _ rfl rfl rfl rfl Ap rfl (Bg _) (fun z=>by kernel_rfl) (fun z=>by kernel_rfl) (by kernel_rfl) (by kernel_rfl) ?hT1
 case hH1=>
  simp only[List.toList_toArray,List.take_succ_cons,List.take_zero,AI,Act.put,List.setIfInBounds_toArray,List.set_cons_zero,List.set_cons_succ];refine AO (fun z w' hg=>?_) ?_
  ·go_simp;exact Sa _
  refine AO (fun z w' hg=>?_) ?_
  ·obtain⟨c1,c2,c3,c4⟩:=HS.out _ hg;go_simp;exact Sa _
  refine AO (fun z w' hg=>?_) ?_
  ·go_simp;exact Sa _
  refine AO (fun z w' hg=>?_) ?_
  ·go_simp;exact Sa _
  refine AO (fun z w' hg=>?_) ?_
  ·go_simp;exact Sa _
  refine AO (fun z w' hg=>?_) ?_
  ·obtain⟨c1,c2,c3,c4⟩:=HS.out _ hg;go_simp;exact Sa _
  refine AO (fun z w' hg=>?_) ?_
  ·go_simp;exact Sa _
  refine AO (fun z w' hg=>?_) ?_
  ·go_simp;exact Sa _
  refine AO (fun z w' hg=>?_) ?_
  ·go_simp;(with_reducible refine(HP1.out _).mono ?_);rintro e wq ⟨rfl,kq⟩;exact⟨rfl,kq⟩
  refine FB ?_;exact DF
 case hal1=>
  intro o ho a1 w1 K hK;obtain rfl:=SI ho;go_simp;exact hK _ rfl
 case hT1=>
  intro z wz hz hbz hgz;simp only[List.toList_toArray,List.take_succ_cons,List.take_zero,AI,Act.put,List.setIfInBounds_toArray,List.set_cons_zero,List.set_cons_succ];have h1:=m1.grew hgz;have h2:=m2.grew hgz;have h3:=m3.grew hgz;have hG7:=hG6.trans hgz;clear m1 m2 m3 hG6 hgz HS hz;generalize hz8:z=z8 at*;clear hz8;have b8:=hbz;clear hbz;have HS:=S9 (show ∀w',A5 wz.drew w'→w'.cell? ⟨w.heap.size,0,none⟩=some (.int .i64 n1)∧w'.cell? ⟨w.heap.size,1,none⟩=some (.int .i64 (p:Int))∧w'.cell? ⟨w.heap.size+1,0,none⟩=some (.int .i64 n2)∧w'.cell? ⟨w.heap.size+1,1,none⟩=some (.int .i64 (q:Int))from fun w' g=>⟨((h1.drewN 1).grew g).cell 0,((h1.drewN 1).grew g).cell 1,((h2.drewN 1).grew g).cell 0,((h2.drewN 1).grew g).cell 1⟩);go_upto_region 5 with fail;refine FC (by kernel_rfl) 10 9 9 [.pointer (some ⟨w.heap.size,1,none⟩),.int .i64 (p:Int),.int .i64 (h:Int),.int .i64 s,.pointer (some ⟨w.heap.size+1,1,none⟩),.int .i64 (q:Int),.int .i64 (g:Int),.int .i64 t,.agg (B4 D).toArray,undef] 169 [.int .u64 0,.int .u64 0,.bool false] _ (by kernel_rfl) (by kernel_rfl) (by decide) (by rfl) rfl (SL (by kernel_rfl)) (by kernel_rfl) ?hH2 ?hal2 (B4 D) (.tmp 9) (.tmp 49) 169 _ rfl rfl rfl rfl Ap rfl (Bg _) (fun z=>by kernel_rfl) (fun z=>by kernel_rfl) (by kernel_rfl) (by kernel_rfl) ?hT2
  case hH2=>
   simp only[List.toList_toArray,List.take_succ_cons,List.take_zero,AI,Act.put,List.setIfInBounds_toArray,List.set_cons_zero,List.set_cons_succ];refine AO (fun z w' hg=>?_) ?_
   ·go_simp;exact Sa _
   refine AO (fun z w' hg=>?_) ?_
   ·obtain⟨c1,c2,c3,c4⟩:=HS.out _ hg;go_simp;exact Sa _
   refine AO (fun z w' hg=>?_) ?_
   ·go_simp;exact Sa _
   refine AO (fun z w' hg=>?_) ?_
   ·go_simp;exact Sa _
   refine AO (fun z w' hg=>?_) ?_
   ·go_simp;exact Sa _
   refine AO (fun z w' hg=>?_) ?_
   ·obtain⟨c1,c2,c3,c4⟩:=HS.out _ hg;go_simp;exact Sa _
   refine AO (fun z w' hg=>?_) ?_
   ·go_simp;exact Sa _
   refine AO (fun z w' hg=>?_) ?_
   ·go_simp;exact Sa _
   refine AO (fun z w' hg=>?_) ?_
   ·go_simp;(with_reducible refine(HP2.out _).mono ?_);rintro e wq ⟨rfl,kq⟩;exact⟨rfl,kq⟩
   refine FB ?_;exact DF
  case hal2=>
   intro o ho a1 w1 K hK;obtain rfl:=SI ho;go_simp;exact hK _ rfl
  case hT2=>
   intro z wy hz hbz hgz;simp only[List.toList_toArray,List.take_succ_cons,List.take_zero,AI,Act.put,List.setIfInBounds_toArray,List.set_cons_zero,List.set_cons_succ];have h6:=h3.grew hgz;have b8:=b8.grew hgz;have hG8:=hG7.trans hgz;clear h1 h2 h3 hG7 hgz HS hz HP1 HP2 e1 e2 e3 e4 q0 q1 q2 q3 hx hy hs ht;generalize hz9:z=z9 at*;clear hz9;have b9:=hbz;clear hbz;have hlo1:N.natAbs%18446744073709551616<18446744073709551616:=Nat.mod_lt _ (by decide);have hlo2:D.natAbs%18446744073709551616<18446744073709551616:=Nat.mod_lt _ (by decide);have hdm1:=Nat.div_add_mod N.natAbs 18446744073709551616;have hdm2:=Nat.div_add_mod D.natAbs 18446744073709551616;have c5:wy.cell? ⟨z8,0,none⟩=some (.int .u64 ((N.natAbs/18446744073709551616:Nat):Int)):=b8.cell 0;have c6:wy.cell? ⟨z8,1,none⟩=some (.int .u64 ((N.natAbs%18446744073709551616:Nat):Int)):=b8.cell 1;have c7:wy.cell? ⟨z8,2,none⟩=some (.bool (decide (N<0))):=b8.cell 2;have c8:wy.cell? ⟨z9,0,none⟩=some (.int .u64 ((D.natAbs/18446744073709551616:Nat):Int)):=b9.cell 0;have c9:wy.cell? ⟨z9,1,none⟩=some (.int .u64 ((D.natAbs%18446744073709551616:Nat):Int)):=b9.cell 1;clear b8 b9;generalize N.natAbs/18446744073709551616=hi1 at*;generalize N.natAbs%18446744073709551616=lo1 at*;generalize D.natAbs/18446744073709551616=hi2 at*;generalize D.natAbs%18446744073709551616=lo2 at*;obtain⟨sg,hsg⟩:∃b:Bool,decide (N<0)=b:=⟨_,rfl⟩;rw[hsg]at c7;by_cases k1:hi1=0
   case neg=>
    have u1:((hi1:Int)==0)=false:=by rw[SA];omega
    have u2:((hi1:Int) !=0)=true:=by simp;omega
    have HB:Hid (Dy n1 p n2 q=(0,0,5)):=S9 (by rw[HMR.out,SQ];omega);clear hdm1 hdm2 hlo1 hlo2;go_wp2_with(refine Ar 24 (.tmp 4) (.tmp 68) (w.heap.size+1+1) (AN 0 0) (AN 0 0) 24 Ad rfl (Az _ _) rfl rfl rfl rfl h6 ?_;intro w8 hb8 k8 d8);refine bodyPost_ret (Aj rfl rfl rfl Ad Tryz.underlying24 rfl hb8) rfl ?_;rw[HB.out];exact⟨rfl,Sb hG8 k8 (fun i hi e=>by omega)⟩
   have u1:((hi1:Int)==0)=true:=by rw[SG];omega
   have u2:((hi1:Int) !=0)=false:=by simp;omega
   by_cases k2:4611686018427387904<lo1
   case pos=>
    have u3:decide ((4611686018427387904:Int)<(lo1:Int))=true:=by simp;omega
    have HB:Hid (Dy n1 p n2 q=(0,0,5)):=S9 (by rw[HMR.out,SQ];omega);clear hdm1 hdm2 hlo1 hlo2;go_wp2_with(refine Ar 24 (.tmp 4) (.tmp 68) (w.heap.size+1+1) (AN 0 0) (AN 0 0) 24 Ad rfl (Az _ _) rfl rfl rfl rfl h6 ?_;intro w8 hb8 k8 d8);refine bodyPost_ret (Aj rfl rfl rfl Ad Tryz.underlying24 rfl hb8) rfl ?_;rw[HB.out];exact⟨rfl,Sb hG8 k8 (fun i hi e=>by omega)⟩
   have u3:decide ((4611686018427387904:Int)<(lo1:Int))=false:=by simp;omega
   by_cases k3:hi2=0
   case neg=>
    have u4:((hi2:Int)==0)=false:=by rw[SA];omega
    have u5:((hi2:Int) !=0)=true:=by simp;omega
    have HB:Hid (Dy n1 p n2 q=(0,0,5)):=S9 (by rw[HMR.out,SQ];omega);clear hdm1 hdm2 hlo1 hlo2;go_wp2_with(refine Ar 24 (.tmp 4) (.tmp 68) (w.heap.size+1+1) (AN 0 0) (AN 0 0) 24 Ad rfl (Az _ _) rfl rfl rfl rfl h6 ?_;intro w8 hb8 k8 d8);refine bodyPost_ret (Aj rfl rfl rfl Ad Tryz.underlying24 rfl hb8) rfl ?_;rw[HB.out];exact⟨rfl,Sb hG8 k8 (fun i hi e=>by omega)⟩
   have u4:((hi2:Int)==0)=true:=by rw[SG];omega
   have u5:((hi2:Int) !=0)=false:=by simp;omega
   by_cases k4:4611686018427387904<lo2
   case pos=>
    have u6:decide ((4611686018427387904:Int)<(lo2:Int))=true:=by simp;omega
    have HB:Hid (Dy n1 p n2 q=(0,0,5)):=S9 (by rw[HMR.out,SQ];omega);clear hdm1 hdm2 hlo1 hlo2;go_wp2_with(refine Ar 24 (.tmp 4) (.tmp 68) (w.heap.size+1+1) (AN 0 0) (AN 0 0) 24 Ad rfl (Az _ _) rfl rfl rfl rfl h6 ?_;intro w8 hb8 k8 d8);refine bodyPost_ret (Aj rfl rfl rfl Ad Tryz.underlying24 rfl hb8) rfl ?_;rw[HB.out];exact⟨rfl,Sb hG8 k8 (fun i hi e=>by omega)⟩
   have u6:decide ((4611686018427387904:Int)<(lo2:Int))=false:=by simp;omega
   have HB:Hid (Dy n1 p n2 q=(N,D,0)):=S9 (by rw[HMR.out,SR];omega);have HD2:Hid (D=(lo2:Int)):=S9 (by have:=HD0.out;omega);have v1:IntKind.i64.wrap (lo1:Int)=(lo1:Int):=IntWalk.i64_in _ (by omega);have v2:IntKind.i64.wrap (-(lo1:Int))= -(lo1:Int):=IntWalk.i64_in _ (by omega);have v3:IntKind.i64.wrap (lo2:Int)=(lo2:Int):=IntWalk.i64_in _ (by omega);cases sg
   ·have HN2:Hid (N=(lo1:Int)):=S9 (by have:=of_decide_eq_false hsg;omega);clear hsg k1 k2 k3 k4 hdm1 hdm2 hlo1 hlo2;go_wp2_with(refine Ar 24 (.tmp 4) (.tmp 80) (w.heap.size+1+1) (AN (lo1:Int) (lo2:Int)) (AN 0 0) 24 Ad rfl (Az _ _) rfl rfl rfl rfl h6 ?_;intro w8 hb8 k8 d8);refine bodyPost_ret (Aj rfl rfl rfl Ad Tryz.underlying24 rfl hb8) rfl ?_;rw[HB.out,HN2.out,HD2.out];exact⟨rfl,Sb hG8 k8 (fun i hi e=>by omega)⟩
   have HN2:Hid (N= -(lo1:Int)):=S9 (by have:=SL hsg;omega);clear hsg k1 k2 k3 k4 hdm1 hdm2 hlo1 hlo2;go_wp2_with(refine Ar 24 (.tmp 4) (.tmp 80) (w.heap.size+1+1) (AN (-(lo1:Int)) (lo2:Int)) (AN 0 0) 24 Ad rfl (Az _ _) rfl rfl rfl rfl h6 ?_;intro w8 hb8 k8 d8);refine bodyPost_ret (Aj rfl rfl rfl Ad Tryz.underlying24 rfl hb8) rfl ?_;rw[HB.out,HN2.out,HD2.out];exact⟨rfl,Sb hG8 k8 (fun i hi e=>by omega)⟩
end Go.Proofs.YthpflelgbadkcaaGreatDoor
namespace Go.Proofs.YthpflelgbadkcaaGreatDoor
open Go.Shelf Go.RowKit Pl
def JG:Go.Shelf.Ren:=⟨fun|25=>133|26=>134|n=>n,fun|_=>123,fun|n=>n⟩
theorem Qz:Go.Proofs.Lays7.n25 Tryz.prog JG:={
 mixed:=by kernel_rfl
 f25:=Tryz.func133.trans (congrArg some (by kernel_rfl))
 t22:=Tryz.underlying123
 a22:=Tryz.isAgg123
 z22:=Tryz.sizeOf123
 v22:=Tryz.zeroValue123
 i22:=by kernel_rfl }
theorem Qx:Go.Proofs.Lays7.n26 Tryz.prog JG:={
 mixed:=by kernel_rfl
 f26:=Tryz.func134.trans (congrArg some (by kernel_rfl))
 t22:=Tryz.underlying123
 a22:=Tryz.isAgg123
 z22:=Tryz.sizeOf123
 v22:=Tryz.zeroValue123
 i22:=by kernel_rfl }
theorem Jh (x y c:Nat) (hc:c≤1) (w:World):
  (callFunc 133 #[.int .u64 (x:Nat),.int .u64 (y:Nat),.int .u64 (c:Nat)]).run Tryz.prog w= .ok (.value (.tuple #[.int .u64 (((x+y+c)%18446744073709551616:Nat):Int),.int .u64 (((x+y+c)/18446744073709551616:Nat):Int)])) w:=
 Go.Proofs.Any7.bits_Add64 Qz x y c hc w
theorem Bd (x y b:Nat) (hb:b≤1) (w:World):
  (callFunc 134 #[.int .u64 (x:Nat),.int .u64 (y:Nat),.int .u64 (b:Nat)]).run Tryz.prog w= .ok (.value (.tuple #[.int .u64 (((x+18446744073709551616-y-b)%18446744073709551616:Nat):Int),.int .u64 ((if x<y+b then 1 else 0:Nat):Int)])) w:=
 Go.Proofs.Any7.bits_Sub64 Qx x y b hb w
end Go.Proofs.YthpflelgbadkcaaGreatDoor
