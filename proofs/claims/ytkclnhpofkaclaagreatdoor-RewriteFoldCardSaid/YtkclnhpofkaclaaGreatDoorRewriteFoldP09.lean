/- ref03: Add. -/
import Derived.Test.YtkclnhpofkaclaaGreatDoorRewriteFoldP04
import Derived.Test.YtkclnhpofkaclaaGreatDoorRewriteFoldP01
import Derived.Test.YtkclnhpofkaclaaGreatDoorRewriteFoldP08
import Derived.Test.YtkclnhpofkaclaaGreatDoorRewriteFoldP05
set_option maxRecDepth 100000
set_option maxHeartbeats 12800000
set_option linter.unusedVariables false
set_option linter.unusedSimpArgs false
namespace Go.Proofs.YtkclnhpofkaclaaGreatDoor
open Go.RowKit Pl
theorem JY {n1 n2:Int} {p q:Nat} {s:Bool} (h1:decide (n1<0)=s) (h2:decide (n2<0)=s):n1*(q:Int)+n2*(p:Int)=if s=true then -((n1.natAbs*q+n2.natAbs*p:Nat):Int)else((n1.natAbs*q+n2.natAbs*p:Nat):Int):=by
 subst h1;rw[←Of h2.symm];simp only[decide_eq_true_eq]
theorem JU {n1 n2:Int} {p q:Nat} {s s2:Bool} (h1:decide (n1<0)=s2) (h2:decide (n2<0)=s) (hne:s2≠s) (hl:n1.natAbs*q≤n2.natAbs*p):n1*(q:Int)+n2*(p:Int)=if s=true then -((n2.natAbs*p-n1.natAbs*q:Nat):Int)else((n2.natAbs*p-n1.natAbs*q:Nat):Int):=by
 subst h1;subst h2;rw[←Kz hne hl];simp only[decide_eq_true_eq]
theorem Jp {n1 n2:Int} {p q:Nat} {s s2:Bool} (h1:decide (n1<0)=s) (h2:decide (n2<0)=s2) (hne:s≠s2) (hl:n2.natAbs*p≤n1.natAbs*q):n1*(q:Int)+n2*(p:Int)=if s=true then -((n1.natAbs*q-n2.natAbs*p:Nat):Int)else((n1.natAbs*q-n2.natAbs*p:Nat):Int):=by
 subst h1;subst h2;rw[←QM hne hl];simp only[decide_eq_true_eq]
theorem NF {a b:Nat}:decide (CQ a b<0)=decide (a<b):=by
 unfold CQ;rw[decide_eq_decide];split
 ·omega
 split<;>omega
theorem LA (n1 d1 n2 d2:Int) (w:World) (hn1:Ah n1) (hd1:Ah d1) (hn2:Ah n2) (hd2:Ah d2):Calls Tryz.prog 113 #[.agg (AA n1 d1).toArray,.agg (AA n2 d2).toArray] w fun e w'=>e= .returned (BS (DQ n1 d1 n2 d2))∧A5 w w':=by
 obtain⟨hb1,hb2,hb3,hG3⟩:=BO w 24 24 24 (AA n1 d1).toArray (AA n2 d2).toArray (AA 0 0).toArray;have HV1:=UX (fun w'=>C7 n1 d1 w' hn1 hd1);have HV2:=UX (fun w'=>C7 n2 d2 w' hn2 hd2);obtain⟨v1,hv1⟩:∃v:Bool,AU n1 d1=v:=⟨_,rfl⟩;obtain⟨v2,hv2⟩:∃v:Bool,AU n2 d2=v:=⟨_,rfl⟩;rw[hv1]at HV1;rw[hv2]at HV2;go_enter Tryz.func113,Tryz.ntmps113;go_upto_region 1 with fail;change Code.wp _ _ _ _ (((w.alloc (.cells (AA n1 d1).toArray 24)).alloc (.cells (AA n2 d2).toArray 24)).alloc (.cells (AA 0 0).toArray 24));generalize ((w.alloc (.cells (AA n1 d1).toArray 24)).alloc (.cells (AA n2 d2).toArray 24)).alloc (.cells (AA 0 0).toArray 24)=w3 at*;go_upto_region 2 with(first|(refine lN (.tmp 2) hb1 rF ?_)|(go_at_call 102;refine(HV1.out _).mono ?_;rintro e w4 ⟨rfl,k4⟩;have hc1:=hb1.grew k4;have hc2:=hb2.grew k4;have hc3:=hb3.grew k4;have hG4:=hG3.trans k4)|fail);clear hb1 hb2 hb3 hG3 k4;go_upto_region 3 with(first|(refine lN (.tmp 3) hc2 rF ?_)|(go_at_call 102;refine(HV2.out _).mono ?_;rintro e w5 ⟨rfl,k5⟩;have he1:=hc1.grew k5;have he2:=hc2.grew k5;have he3:=hc3.grew k5;have hG5:=hG4.trans k5)|fail);clear hc1 hc2 hc3 hG4 k5 HV1 HV2;cases v1
 ·have HB:=UX (Gh (n2:=n2) (d2:=d2) (.inl hv1));clear hv1 hv2;go_wp2_with(first|(refine sN (.tmp 4) (.tmp 21) (AA 0 0) he3 rF ?_;intro w8 hb8 k8 d8)|fail);refine rT rF hb8 ?_;rw[HB.out];exact⟨rfl,Uw hG5 k8 (fun i hi e=>by omega)⟩
 cases v2
 ·have HB:=UX (Gh (n1:=n1) (d1:=d1) (.inr hv2));clear hv1 hv2;go_wp2_with(first|(refine sN (.tmp 4) (.tmp 21) (AA 0 0) he3 rF ?_;intro w8 hb8 k8 d8)|fail);refine rT rF hb8 ?_;rw[HB.out];exact⟨rfl,Uw hG5 k8 (fun i hi e=>by omega)⟩
 have HVV:=UX (UZ hv1 hv2);obtain⟨a1,a2,a3,a4,a5⟩:=B8 hv1;obtain⟨b1,b2,b3,b4,b5⟩:=B8 hv2;clear hv1 hv2 a5 b5;obtain⟨p,rfl⟩:∃p:Nat,d1=(p:Int):=⟨d1.toNat,by omega⟩;obtain⟨q,rfl⟩:∃q:Nat,d2=(q:Int):=⟨d2.toNat,by omega⟩;obtain⟨s1,hs1⟩:∃v:Bool,Dy n1 p=v:=⟨_,rfl⟩;obtain⟨s2,hs2⟩:∃v:Bool,Dy n2 q=v:=⟨_,rfl⟩;have HS1:=UX (fun w'=>Ed n1 p w' hn1);have HS2:=UX (fun w'=>Ed n2 q w' hn2);rw[hs1]at HS1;rw[hs2]at HS2;go_upto_region 6 with(first|(refine lN (.tmp 2) he1 rF ?_)|(go_at_call 137;refine(HS1.out _).mono ?_;rintro e w6 ⟨rfl,k6⟩;have hf1:=he1.grew k6;have hf2:=he2.grew k6;have hf3:=he3.grew k6;have hG6:=hG5.trans k6)|fail);clear he1 he2 he3 hG5 k6;go_upto_region 7 with(first|(refine lN (.tmp 3) hf2 rF ?_)|(go_at_call 137;refine(HS2.out _).mono ?_;rintro e w7 ⟨rfl,k7⟩;have h1:=hf1.grew k7;have h2:=hf2.grew k7;have h3:=hf3.grew k7;have hG7:=hG6.trans k7)|fail);clear hf1 hf2 hf3 hG6 k7 HS1 HS2;have c1:w7.cell? ⟨w.heap.size,0,none⟩=some (.int .i64 n1):=h1.cell 0;have c2:w7.cell? ⟨w.heap.size,1,none⟩=some (.int .i64 (p:Int)):=h1.cell 1;have c3:w7.cell? ⟨w.heap.size+1,0,none⟩=some (.int .i64 n2):=h2.cell 0;have c4:w7.cell? ⟨w.heap.size+1,1,none⟩=some (.int .i64 (q:Int)):=h2.cell 1;have HF:Hid (DQ n1 p n2 q=Cz (n1*q+n2*p) (p*q)):=UX (by
  unfold DQ;rw[Uo HVV.out,show((p:Int)*(q:Int)).toNat=p*q from by rw[←Um];rfl])
 by_cases hss:s1=true∧s2=true
 ·obtain⟨rfl,rfl⟩:=hss;obtain⟨l1,l2⟩:=Ep hs1;obtain⟨l3,l4⟩:=Ep hs2;have m1:=Hd l1 (show(q:Int).natAbs≤1073741824 by omega);have m4:=Hd l3 (show(p:Int).natAbs≤1073741824 by omega);have m2:=Nat.mul_le_mul (show p≤1073741824 by omega) (show q≤1073741824 by omega);have m3:0<p*q:=Nat.mul_pos (by omega) (by omega);have e0:(p:Int)*(q:Int)=((p*q:Nat):Int):=(Um _ _).symm;have hnew:=Kl (n:=n1*q+n2*p) (d:=((p*q:Nat):Int)) (by omega) (by omega);rw[Int.toNat_natCast]at hnew;rw[←hnew]at HF;clear hnew;generalize hza:n1*(q:Int)=za at*;generalize hzb:n2*(p:Int)=zb at*;generalize p*q=m at*;have HN:=UX (fun w'=>Iz (za+zb) (m:Int) w' ⟨by omega,by omega⟩ ⟨by omega,by omega⟩);obtain⟨⟨x,y,er⟩,hp⟩:∃r,EZ (za+zb) m=r:=⟨_,rfl⟩;rw[hp]at HF HN;simp only[BS]at HN;have e1:IntKind.i64.wrap za=za:=IntWalk.i64_in _ (by omega);have e3:IntKind.i64.wrap zb=zb:=IntWalk.i64_in _ (by omega);have e4:IntKind.i64.wrap (za+zb)=za+zb:=IntWalk.i64_in _ (by omega);have e2:IntKind.i64.wrap (m:Int)=(m:Int):=IntWalk.i64_in _ (by omega);clear hp m1 m2 m3 m4 l1 l2 l3 l4 hs1 hs2 HVV hn1 hn2 hd1 hd2 a1 a2 a3 a4 b1 b2 b3 b4;go_wp2_with(first|(go_at_call 133;(with_reducible refine(HN.out _).mono ?_);rintro e w8 ⟨rfl,k8⟩;have g3:=h3.grew k8;have hG8:=hG7.trans k8)|(refine sN (.tmp 4) (.tmp 47) (AA x y) g3 rF ?_;intro w9 hb9 k9 d9)|fail);refine rT rF hb9 ?_;rw[HF.out];exact⟨rfl,Uw hG8 k9 (fun i hi e=>by omega)⟩
 have HZ1:=UX (fun w'=>Eg n1 w' hn1);have HZ2:=UX (fun w'=>Eg n2 w' hn2);have hx1:n1.natAbs≤4611686018427387904:=by omega
 have hx2:n2.natAbs≤4611686018427387904:=by omega
 obtain⟨x1,hx1e⟩:∃x,n1.natAbs=x:=⟨_,rfl⟩;obtain⟨x2,hx2e⟩:∃x,n2.natAbs=x:=⟨_,rfl⟩;rw[hx1e]at hx1 HZ1;rw[hx2e]at hx2 HZ2;have HF1:=UX (fun w'=>Cr x1 w' (by omega));have HF2:=UX (fun w'=>Cr x2 w' (by omega));have HP:=UX (fun w'=>Cr p w' (by omega));have HQ:=UX (fun w'=>Cr q w' (by omega));have HT1:=UX (fun w'=>EI x1 q w' (by omega));have HT2:=UX (fun w'=>EI x2 p w' (by omega));have HT3:=UX (fun w'=>EI p q w' (by omega));have HB:Hid (x1*q<2^253∧x2*p<2^253∧p*q<2^255∧0<p*q):=UX (by
  have l1:=Nat.mul_le_mul hx1 (show q≤4611686018427387904 by omega);have l2:=Nat.mul_le_mul hx2 (show p≤4611686018427387904 by omega);have l3:=Nat.mul_le_mul (show p≤4611686018427387904 by omega) (show q≤4611686018427387904 by omega);have l4:0<p*q:=Nat.mul_pos (by omega) (by omega);omega)
 obtain⟨sa,hsa⟩:∃s:Bool,decide (n1<0)=s:=⟨_,rfl⟩;obtain⟨sb,hsb⟩:∃s:Bool,decide (n2<0)=s:=⟨_,rfl⟩;obtain⟨⟨x,y,er⟩,hred⟩:∃r,Cz (n1*q+n2*p) (p*q)=r:=⟨_,rfl⟩;rw[hred]at HF;have wp1:IntKind.u64.wrap (p:Int)=(p:Int):=AH _ (by omega);have wq1:IntKind.u64.wrap (q:Int)=(q:Int):=AH _ (by omega);clear hx1 hx2 c1 c2 c3 c4 hn1 hn2 hd1 hd2 a1 a2 a3 a4 b1 b2 b3 b4 hs1 hs2;cases s1
 ·clear hss;have HS:=UX (show ∀w',A5 w7.drew w'→w'.cell? ⟨w.heap.size,0,none⟩=some (.int .i64 n1)∧w'.cell? ⟨w.heap.size,1,none⟩=some (.int .i64 (p:Int))∧w'.cell? ⟨w.heap.size+1,0,none⟩=some (.int .i64 n2)∧w'.cell? ⟨w.heap.size+1,1,none⟩=some (.int .i64 (q:Int))from fun w' g=>⟨((h1.drewN 1).grew g).cell 0,((h1.drewN 1).grew g).cell 1,((h2.drewN 1).grew g).cell 0,((h2.drewN 1).grew g).cell 1⟩);go_upto_region 9 with fail;refine BU (by kernel_rfl) 10 9 8 [.pointer (some ⟨w.heap.size,0,none⟩),.int .i64 n1,.int .u64 (x1:Int),Ar x1,.pointer (some ⟨w.heap.size+1,1,none⟩),.int .i64 (q:Int),.int .u64 (q:Int),Ar q,Ar (x1*q),undef] 147 (AI (fun _=>0)) _ (by kernel_rfl) (by kernel_rfl) (by decide) (by rfl) rfl (Ui (by kernel_rfl)) (by kernel_rfl) ?hH1 ?hal1 (AI (dg (x1*q))) (.tmp 8) (.tmp 57) 147 _ rfl rfl rfl rfl CG rfl (Ap _) (fun z=>by kernel_rfl) (fun z=>by kernel_rfl) (by kernel_rfl) (by kernel_rfl) ?hT1
  case hH1=>
   simp only[ny];refine hQ (AC (fun z w' hg=>?_) ?_)
   ·obtain⟨c1,c2,c3,c4⟩:=HS.out _ hg;go_simp;exact Uv _
   refine AC (fun z w' hg=>?_) ?_
   ·go_simp;(with_reducible refine(HZ1.out _).mono ?_);rintro e wq ⟨rfl,rfl⟩;exact⟨rfl,Uv _⟩
   refine Dc (fun w' hg=>HF1.out _) (hQ (AC (fun z w' hg=>?_) ?_))
   ·obtain⟨c1,c2,c3,c4⟩:=HS.out _ hg;go_simp;exact Uv _
   exact hQ (Dc (fun w' hg=>HQ.out _) (Dc (fun w' hg=>HT1.out _) (BV Aj)))
  case hal1=>
   intro o ho a1 w1 K hK;obtain rfl:=Uf ho;go_simp;exact hK _ rfl
  case hT1=>
   intro z wz hz hbz hgz;simp only[ny];have m1:=h1.grew hgz;have m2:=h2.grew hgz;have m3:=h3.grew hgz;have hG4:=hG7.trans hgz;clear h1 h2 h3 hG7 hgz HS;generalize hz8:z=z8 at*;clear hz8;have hz8:w7.heap.size≤z8:=hz;clear hz;have b8:=hbz;clear hbz;have HS:=UX (show ∀w',A5 wz.drew w'→w'.cell? ⟨w.heap.size,0,none⟩=some (.int .i64 n1)∧w'.cell? ⟨w.heap.size,1,none⟩=some (.int .i64 (p:Int))∧w'.cell? ⟨w.heap.size+1,0,none⟩=some (.int .i64 n2)∧w'.cell? ⟨w.heap.size+1,1,none⟩=some (.int .i64 (q:Int))from fun w' g=>⟨((m1.drewN 1).grew g).cell 0,((m1.drewN 1).grew g).cell 1,((m2.drewN 1).grew g).cell 0,((m2.drewN 1).grew g).cell 1⟩);go_upto_region 10 with fail;refine BU (by kernel_rfl) 10 9 9 [.pointer (some ⟨w.heap.size+1,0,none⟩),.int .i64 n2,.int .u64 (x2:Int),Ar x2,.pointer (some ⟨w.heap.size,1,none⟩),.int .i64 (p:Int),.int .u64 (p:Int),Ar p,Ar (x2*p),undef] 147 (AI (fun _=>0)) _ (by kernel_rfl) (by kernel_rfl) (by decide) (by rfl) rfl (Ui (by kernel_rfl)) (by kernel_rfl) ?hH2 ?hal2 (AI (dg (x2*p))) (.tmp 9) (.tmp 66) 147 _ rfl rfl rfl rfl CG rfl (Ap _) (fun z=>by kernel_rfl) (fun z=>by kernel_rfl) (by kernel_rfl) (by kernel_rfl) ?hT2
   case hH2=>
    simp only[ny];refine hQ (AC (fun z w' hg=>?_) ?_)
    ·obtain⟨c1,c2,c3,c4⟩:=HS.out _ hg;go_simp;exact Uv _
    refine AC (fun z w' hg=>?_) ?_
    ·go_simp;(with_reducible refine(HZ2.out _).mono ?_);rintro e wq ⟨rfl,rfl⟩;exact⟨rfl,Uv _⟩
    refine Dc (fun w' hg=>HF2.out _) (hQ (AC (fun z w' hg=>?_) ?_))
    ·obtain⟨c1,c2,c3,c4⟩:=HS.out _ hg;go_simp;exact Uv _
    exact hQ (Dc (fun w' hg=>HP.out _) (Dc (fun w' hg=>HT2.out _) (BV Aj)))
   case hal2=>
    intro o ho a1 w1 K hK;obtain rfl:=Uf ho;go_simp;exact hK _ rfl
   case hT2=>
    intro z wy hz hbz hgz;simp only[ny];have h1:=m1.grew hgz;have h2:=m2.grew hgz;have h3:=m3.grew hgz;have b8:=b8.grew hgz;have hG5:=hG4.trans hgz;clear m1 m2 m3 hG4 hgz HS hz8;generalize hz9:z=z9 at*;clear hz9 hz;have b9:=hbz;clear hbz;have HS:=UX (show ∀w',A5 wy.drew w'→w'.cell? ⟨w.heap.size,0,none⟩=some (.int .i64 n1)∧w'.cell? ⟨w.heap.size,1,none⟩=some (.int .i64 (p:Int))∧w'.cell? ⟨w.heap.size+1,0,none⟩=some (.int .i64 n2)∧w'.cell? ⟨w.heap.size+1,1,none⟩=some (.int .i64 (q:Int))from fun w' g=>⟨((h1.drewN 1).grew g).cell 0,((h1.drewN 1).grew g).cell 1,((h2.drewN 1).grew g).cell 0,((h2.drewN 1).grew g).cell 1⟩);go_upto_region 11 with fail;refine BU (by kernel_rfl) 10 9 10 [.pointer (some ⟨w.heap.size,1,none⟩),.int .i64 (p:Int),.int .u64 (p:Int),Ar p,.pointer (some ⟨w.heap.size+1,1,none⟩),.int .i64 (q:Int),.int .u64 (q:Int),Ar q,Ar (p*q),undef] 147 (AI (fun _=>0)) _ (by kernel_rfl) (by kernel_rfl) (by decide) (by rfl) rfl (Ui (by kernel_rfl)) (by kernel_rfl) ?hH3 ?hal3 (AI (dg (p*q))) (.tmp 10) (.tmp 75) 147 _ rfl rfl rfl rfl CG rfl (Ap _) (fun z=>by kernel_rfl) (fun z=>by kernel_rfl) (by kernel_rfl) (by kernel_rfl) ?hT3
    case hH3=>
     simp only[ny];refine hQ (AC (fun z w' hg=>?_) ?_)
     ·obtain⟨c1,c2,c3,c4⟩:=HS.out _ hg;go_simp;exact Uv _
     refine hQ (Dc (fun w' hg=>HP.out _) (hQ (AC (fun z w' hg=>?_) ?_)))
     ·obtain⟨c1,c2,c3,c4⟩:=HS.out _ hg;go_simp;exact Uv _
     exact hQ (Dc (fun w' hg=>HQ.out _) (Dc (fun w' hg=>HT3.out _) (BV Aj)))
    case hal3=>
     intro o ho a1 w1 K hK;obtain rfl:=Uf ho;go_simp;exact hK _ rfl
    case hT3=>
     intro z wx hz hbz hgz;simp only[ny];have h4:=h1.grew hgz;have h5:=h2.grew hgz;have h6:=h3.grew hgz;have b8:=b8.grew hgz;have b9:=b9.grew hgz;have hG6:=hG5.trans hgz;clear h1 h2 h3 hG5 hgz HS;generalize hz10:z=z10 at*;clear hz10 hz;have b10:=hbz;clear hbz;have HSz:=UX (show ∀w',A5 wx.drew w'→w'.cell? ⟨w.heap.size,0,none⟩=some (.int .i64 n1)∧w'.cell? ⟨w.heap.size+1,0,none⟩=some (.int .i64 n2)∧AK w' z8 147 (AI (dg (x1*q))).toArray∧AK w' z9 147 (AI (dg (x2*p))).toArray∧AK w' z10 147 (AI (dg (p*q))).toArray from fun w' g=>⟨((h4.drewN 1).grew g).cell 0,((h5.drewN 1).grew g).cell 0,(b8.drewN 1).grew g,(b9.drewN 1).grew g,(b10.drewN 1).grew g⟩);have c1:wx.cell? ⟨w.heap.size,0,none⟩=some (.int .i64 n1):=h4.cell 0;have c2:wx.cell? ⟨w.heap.size+1,0,none⟩=some (.int .i64 n2):=h5.cell 0;by_cases hse:sa=sb
     ·have HL:=UX (fun w'=>Ch sa (x1*q+x2*p) (p*q) (n1*q+n2*p) w' (by have:=HB.out;omega) HB.out.2.2.1 HB.out.2.2.2 (by have:=JY (p:=p) (q:=q) hsa (hsb.trans hse.symm);rwa[hx1e,hx2e]at this));rw[hred]at HL;simp only[BS]at HL;have HAr:=UX (fun w'=>Ez (x1*q) (x2*p) w' (by have:=HB.out;omega));subst hse;clear hx1e hx2e;go_upto_region 13 with fail;clear c1 c2;refine C8 (by kernel_rfl) 10 [.pointer (some ⟨w.heap.size,0,none⟩),.int .i64 n1,.bool sa,Ar (x1*q),Ar (x2*p),Ar (x1*q+x2*p),Ar (p*q),.tuple #[.agg (AA x y).toArray,.int .i64 er],.agg (AA x y).toArray,.int .i64 er] _ (by kernel_rfl) (by kernel_rfl) (by kernel_rfl) rfl ?kH4 5 _ _ rfl rfl rfl rfl rfl (.int .i64 er) ?kV4 24 (.tmp 4) (.tmp 91) (w.heap.size+1+1) (AA x y) (AA 0 0) 24 rfl rfl C1 rfl (BP _ _) (by kernel_rfl) (by kernel_rfl) (by kernel_rfl) (by kernel_rfl) (by kernel_rfl) h6 ?kT4
      case kH4=>
       simp only[ny];refine hQ (AC (fun z w' hg=>?_) ?_)
       ·obtain⟨c1,c2,b8,b9,b10⟩:=HSz.out _ hg;go_simp;exact Uv _
       refine hQ (AC (fun z w' hg=>?_) ?_)
       ·obtain⟨c1,c2,b8,b9,b10⟩:=HSz.out _ hg;exact mB (.tmp 8) b8 rN ⟨rfl,Uv _⟩
       refine AC (fun z w' hg=>?_) ?_
       ·obtain⟨c1,c2,b8,b9,b10⟩:=HSz.out _ hg;exact mB (.tmp 9) b9 rN ⟨rfl,Uv _⟩
       refine Dc (fun w' hg=>HAr.out _) (AC (fun z w' hg=>?_) ?_)
       ·obtain⟨c1,c2,b8,b9,b10⟩:=HSz.out _ hg;exact mB (.tmp 10) b10 rN ⟨rfl,Uv _⟩
       exact Dc (fun w' hg=>HL.out _) (hQ (hQ Aj))
      case kV4=>
       intro w';simp only[ny];go_simp
      case kT4=>
       intro wa wb hga hbb hkb;dsimp only;simp only[ny];have hGb:=hG6.trans hga;go_wp2_with fail;refine rT rF hbb ?_;rw[HF.out];exact⟨rfl,Uw hGb hkb (fun i hi e=>by omega)⟩
     have t0:(sa==sb)=false:=by simpa using hse
     have tq:decide (sa=sb)=false:=by simpa using hse
     have tn:(!(sa !=sb))=false:=by simpa using hse
     have HLs:=UX (fun w'=>DH (x1*q) (x2*p) w' (by have:=HB.out;omega) (by have:=HB.out;omega));have hq:decide (CQ (x1*q) (x2*p)<0)=decide (x1*q<x2*p):=NF;generalize CQ (x1*q) (x2*p)=cc at*;by_cases hlt:x1*q<x2*p
     ·have u0:decide (cc<0)=true:=by rw[hq];simpa using hlt
      have HL:=UX (fun w'=>Ch sb (x2*p-x1*q) (p*q) (n1*q+n2*p) w' (by have:=HB.out;omega) HB.out.2.2.1 HB.out.2.2.2 (by have:=JU (p:=p) (q:=q) hsa hsb hse (by rw[hx1e,hx2e];omega);rwa[hx1e,hx2e]at this));rw[hred]at HL;simp only[BS]at HL;have HAr:=UX (fun w'=>CZ (x2*p) (x1*q) w' (by omega) (by have:=HB.out;omega));clear hx1e hx2e hq hlt;go_upto_region 15 with(first|(refine lN (.tmp 8) b8 rN ?_)|(refine lN (.tmp 9) b9 rN ?_)|(go_at_call 143;refine(HLs.out _).mono ?_;rintro e wv ⟨rfl,kv⟩;have h4:=h4.grew kv;have h5:=h5.grew kv;have h6:=h6.grew kv;have b8:=b8.grew kv;have b9:=b9.grew kv;have b10:=b10.grew kv;have hG6:=hG6.trans kv;clear HSz;have HSz:=UX (show ∀w',A5 wv.drew w'→w'.cell? ⟨w.heap.size,0,none⟩=some (.int .i64 n1)∧w'.cell? ⟨w.heap.size+1,0,none⟩=some (.int .i64 n2)∧AK w' z8 147 (AI (dg (x1*q))).toArray∧AK w' z9 147 (AI (dg (x2*p))).toArray∧AK w' z10 147 (AI (dg (p*q))).toArray from fun w' g=>⟨((h4.drewN 1).grew g).cell 0,((h5.drewN 1).grew g).cell 0,(b8.drewN 1).grew g,(b9.drewN 1).grew g,(b10.drewN 1).grew g⟩);clear kv)|fail);refine C8 (by kernel_rfl) 10 [.pointer (some ⟨w.heap.size+1,0,none⟩),.int .i64 n2,.bool sb,Ar (x2*p),Ar (x1*q),Ar (x2*p-x1*q),Ar (p*q),.tuple #[.agg (AA x y).toArray,.int .i64 er],.agg (AA x y).toArray,.int .i64 er] _ (by kernel_rfl) (by kernel_rfl) (by kernel_rfl) rfl ?kH5 5 _ _ rfl rfl rfl rfl rfl (.int .i64 er) ?kV5 24 (.tmp 4) (.tmp 105) (w.heap.size+1+1) (AA x y) (AA 0 0) 24 rfl rfl C1 rfl (BP _ _) (by kernel_rfl) (by kernel_rfl) (by kernel_rfl) (by kernel_rfl) (by kernel_rfl) h6 ?kT5
      case kH5=>
       simp only[ny];refine hQ (AC (fun z w' hg=>?_) ?_)
       ·obtain⟨c1,c2,b8,b9,b10⟩:=HSz.out _ hg;go_simp;exact Uv _
       refine hQ (AC (fun z w' hg=>?_) ?_)
       ·obtain⟨c1,c2,b8,b9,b10⟩:=HSz.out _ hg;exact mB (.tmp 9) b9 rN ⟨rfl,Uv _⟩
       refine AC (fun z w' hg=>?_) ?_
       ·obtain⟨c1,c2,b8,b9,b10⟩:=HSz.out _ hg;exact mB (.tmp 8) b8 rN ⟨rfl,Uv _⟩
       refine Dc (fun w' hg=>HAr.out _) (AC (fun z w' hg=>?_) ?_)
       ·obtain⟨c1,c2,b8,b9,b10⟩:=HSz.out _ hg;exact mB (.tmp 10) b10 rN ⟨rfl,Uv _⟩
       exact Dc (fun w' hg=>HL.out _) (hQ (hQ Aj))
      case kV5=>
       intro w';simp only[ny];go_simp
      case kT5=>
       intro wa wb hga hbb hkb;dsimp only;simp only[ny];have hGb:=hG6.trans hga;go_wp2_with fail;refine rT rF hbb ?_;rw[HF.out];exact⟨rfl,Uw hGb hkb (fun i hi e=>by omega)⟩
     have u0:decide (cc<0)=false:=by rw[hq];simpa using hlt
     have HL:=UX (fun w'=>Ch sa (x1*q-x2*p) (p*q) (n1*q+n2*p) w' (by have:=HB.out;omega) HB.out.2.2.1 HB.out.2.2.2 (by have:=Jp (p:=p) (q:=q) hsa hsb hse (by rw[hx1e,hx2e];omega);rwa[hx1e,hx2e]at this));rw[hred]at HL;simp only[BS]at HL;have HAr:=UX (fun w'=>CZ (x1*q) (x2*p) w' (by omega) (by have:=HB.out;omega));clear hx1e hx2e hq hlt;go_upto_region 16 with(first|(refine lN (.tmp 8) b8 rN ?_)|(refine lN (.tmp 9) b9 rN ?_)|(go_at_call 143;refine(HLs.out _).mono ?_;rintro e wv ⟨rfl,kv⟩;have h4:=h4.grew kv;have h5:=h5.grew kv;have h6:=h6.grew kv;have b8:=b8.grew kv;have b9:=b9.grew kv;have b10:=b10.grew kv;have hG6:=hG6.trans kv;clear HSz;have HSz:=UX (show ∀w',A5 wv.drew w'→w'.cell? ⟨w.heap.size,0,none⟩=some (.int .i64 n1)∧w'.cell? ⟨w.heap.size+1,0,none⟩=some (.int .i64 n2)∧AK w' z8 147 (AI (dg (x1*q))).toArray∧AK w' z9 147 (AI (dg (x2*p))).toArray∧AK w' z10 147 (AI (dg (p*q))).toArray from fun w' g=>⟨((h4.drewN 1).grew g).cell 0,((h5.drewN 1).grew g).cell 0,(b8.drewN 1).grew g,(b9.drewN 1).grew g,(b10.drewN 1).grew g⟩);clear kv)|fail);refine C8 (by kernel_rfl) 10 [.pointer (some ⟨w.heap.size,0,none⟩),.int .i64 n1,.bool sa,Ar (x1*q),Ar (x2*p),Ar (x1*q-x2*p),Ar (p*q),.tuple #[.agg (AA x y).toArray,.int .i64 er],.agg (AA x y).toArray,.int .i64 er] _ (by kernel_rfl) (by kernel_rfl) (by kernel_rfl) rfl ?kH6 5 _ _ rfl rfl rfl rfl rfl (.int .i64 er) ?kV6 24 (.tmp 4) (.tmp 115) (w.heap.size+1+1) (AA x y) (AA 0 0) 24 rfl rfl C1 rfl (BP _ _) (by kernel_rfl) (by kernel_rfl) (by kernel_rfl) (by kernel_rfl) (by kernel_rfl) h6 ?kT6
     case kH6=>
      simp only[ny];refine hQ (AC (fun z w' hg=>?_) ?_)
      ·obtain⟨c1,c2,b8,b9,b10⟩:=HSz.out _ hg;go_simp;exact Uv _
      refine hQ (AC (fun z w' hg=>?_) ?_)
      ·obtain⟨c1,c2,b8,b9,b10⟩:=HSz.out _ hg;exact mB (.tmp 8) b8 rN ⟨rfl,Uv _⟩
      refine AC (fun z w' hg=>?_) ?_
      ·obtain⟨c1,c2,b8,b9,b10⟩:=HSz.out _ hg;exact mB (.tmp 9) b9 rN ⟨rfl,Uv _⟩
      refine Dc (fun w' hg=>HAr.out _) (AC (fun z w' hg=>?_) ?_)
      ·obtain⟨c1,c2,b8,b9,b10⟩:=HSz.out _ hg;exact mB (.tmp 10) b10 rN ⟨rfl,Uv _⟩
      exact Dc (fun w' hg=>HL.out _) (hQ (hQ Aj))
     case kV6=>
      intro w';simp only[ny];go_simp
     case kT6=>
      intro wa wb hga hbb hkb;dsimp only;simp only[ny];have hGb:=hG6.trans hga;go_wp2_with fail;refine rT rF hbb ?_;rw[HF.out];exact⟨rfl,Uw hGb hkb (fun i hi e=>by omega)⟩
 cases s2
 ·clear hss;have HS:=UX (show ∀w',A5 w7.drew w'→w'.cell? ⟨w.heap.size,0,none⟩=some (.int .i64 n1)∧w'.cell? ⟨w.heap.size,1,none⟩=some (.int .i64 (p:Int))∧w'.cell? ⟨w.heap.size+1,0,none⟩=some (.int .i64 n2)∧w'.cell? ⟨w.heap.size+1,1,none⟩=some (.int .i64 (q:Int))from fun w' g=>⟨((h1.drewN 1).grew g).cell 0,((h1.drewN 1).grew g).cell 1,((h2.drewN 1).grew g).cell 0,((h2.drewN 1).grew g).cell 1⟩);go_upto_region 9 with fail;refine BU (by kernel_rfl) 10 9 8 [.pointer (some ⟨w.heap.size,0,none⟩),.int .i64 n1,.int .u64 (x1:Int),Ar x1,.pointer (some ⟨w.heap.size+1,1,none⟩),.int .i64 (q:Int),.int .u64 (q:Int),Ar q,Ar (x1*q),undef] 147 (AI (fun _=>0)) _ (by kernel_rfl) (by kernel_rfl) (by decide) (by rfl) rfl (Ui (by kernel_rfl)) (by kernel_rfl) ?hHz1 ?halz1 (AI (dg (x1*q))) (.tmp 8) (.tmp 57) 147 _ rfl rfl rfl rfl CG rfl (Ap _) (fun z=>by kernel_rfl) (fun z=>by kernel_rfl) (by kernel_rfl) (by kernel_rfl) ?hTz1
  case hHz1=>
   simp only[ny];refine hQ (AC (fun z w' hg=>?_) ?_)
   ·obtain⟨c1,c2,c3,c4⟩:=HS.out _ hg;go_simp;exact Uv _
   refine AC (fun z w' hg=>?_) ?_
   ·go_simp;(with_reducible refine(HZ1.out _).mono ?_);rintro e wq ⟨rfl,rfl⟩;exact⟨rfl,Uv _⟩
   refine Dc (fun w' hg=>HF1.out _) (hQ (AC (fun z w' hg=>?_) ?_))
   ·obtain⟨c1,c2,c3,c4⟩:=HS.out _ hg;go_simp;exact Uv _
   exact hQ (Dc (fun w' hg=>HQ.out _) (Dc (fun w' hg=>HT1.out _) (BV Aj)))
  case halz1=>
   intro o ho a1 w1 K hK;obtain rfl:=Uf ho;go_simp;exact hK _ rfl
  case hTz1=>
   intro z wz hz hbz hgz;simp only[ny];have m1:=h1.grew hgz;have m2:=h2.grew hgz;have m3:=h3.grew hgz;have hG4:=hG7.trans hgz;clear h1 h2 h3 hG7 hgz HS;generalize hz8:z=z8 at*;clear hz8;have hz8:w7.heap.size≤z8:=hz;clear hz;have b8:=hbz;clear hbz;have HS:=UX (show ∀w',A5 wz.drew w'→w'.cell? ⟨w.heap.size,0,none⟩=some (.int .i64 n1)∧w'.cell? ⟨w.heap.size,1,none⟩=some (.int .i64 (p:Int))∧w'.cell? ⟨w.heap.size+1,0,none⟩=some (.int .i64 n2)∧w'.cell? ⟨w.heap.size+1,1,none⟩=some (.int .i64 (q:Int))from fun w' g=>⟨((m1.drewN 1).grew g).cell 0,((m1.drewN 1).grew g).cell 1,((m2.drewN 1).grew g).cell 0,((m2.drewN 1).grew g).cell 1⟩);go_upto_region 10 with fail;refine BU (by kernel_rfl) 10 9 9 [.pointer (some ⟨w.heap.size+1,0,none⟩),.int .i64 n2,.int .u64 (x2:Int),Ar x2,.pointer (some ⟨w.heap.size,1,none⟩),.int .i64 (p:Int),.int .u64 (p:Int),Ar p,Ar (x2*p),undef] 147 (AI (fun _=>0)) _ (by kernel_rfl) (by kernel_rfl) (by decide) (by rfl) rfl (Ui (by kernel_rfl)) (by kernel_rfl) ?hHz2 ?halz2 (AI (dg (x2*p))) (.tmp 9) (.tmp 66) 147 _ rfl rfl rfl rfl CG rfl (Ap _) (fun z=>by kernel_rfl) (fun z=>by kernel_rfl) (by kernel_rfl) (by kernel_rfl) ?hTz2
   case hHz2=>
    simp only[ny];refine hQ (AC (fun z w' hg=>?_) ?_)
    ·obtain⟨c1,c2,c3,c4⟩:=HS.out _ hg;go_simp;exact Uv _
    refine AC (fun z w' hg=>?_) ?_
    ·go_simp;(with_reducible refine(HZ2.out _).mono ?_);rintro e wq ⟨rfl,rfl⟩;exact⟨rfl,Uv _⟩
    refine Dc (fun w' hg=>HF2.out _) (hQ (AC (fun z w' hg=>?_) ?_))
    ·obtain⟨c1,c2,c3,c4⟩:=HS.out _ hg;go_simp;exact Uv _
    exact hQ (Dc (fun w' hg=>HP.out _) (Dc (fun w' hg=>HT2.out _) (BV Aj)))
   case halz2=>
    intro o ho a1 w1 K hK;obtain rfl:=Uf ho;go_simp;exact hK _ rfl
   case hTz2=>
    intro z wy hz hbz hgz;simp only[ny];have h1:=m1.grew hgz;have h2:=m2.grew hgz;have h3:=m3.grew hgz;have b8:=b8.grew hgz;have hG5:=hG4.trans hgz;clear m1 m2 m3 hG4 hgz HS hz8;generalize hz9:z=z9 at*;clear hz9 hz;have b9:=hbz;clear hbz;have HS:=UX (show ∀w',A5 wy.drew w'→w'.cell? ⟨w.heap.size,0,none⟩=some (.int .i64 n1)∧w'.cell? ⟨w.heap.size,1,none⟩=some (.int .i64 (p:Int))∧w'.cell? ⟨w.heap.size+1,0,none⟩=some (.int .i64 n2)∧w'.cell? ⟨w.heap.size+1,1,none⟩=some (.int .i64 (q:Int))from fun w' g=>⟨((h1.drewN 1).grew g).cell 0,((h1.drewN 1).grew g).cell 1,((h2.drewN 1).grew g).cell 0,((h2.drewN 1).grew g).cell 1⟩);go_upto_region 11 with fail;refine BU (by kernel_rfl) 10 9 10 [.pointer (some ⟨w.heap.size,1,none⟩),.int .i64 (p:Int),.int .u64 (p:Int),Ar p,.pointer (some ⟨w.heap.size+1,1,none⟩),.int .i64 (q:Int),.int .u64 (q:Int),Ar q,Ar (p*q),undef] 147 (AI (fun _=>0)) _ (by kernel_rfl) (by kernel_rfl) (by decide) (by rfl) rfl (Ui (by kernel_rfl)) (by kernel_rfl) ?hHz3 ?halz3 (AI (dg (p*q))) (.tmp 10) (.tmp 75) 147 _ rfl rfl rfl rfl CG rfl (Ap _) (fun z=>by kernel_rfl) (fun z=>by kernel_rfl) (by kernel_rfl) (by kernel_rfl) ?hTz3
    case hHz3=>
     simp only[ny];refine hQ (AC (fun z w' hg=>?_) ?_)
     ·obtain⟨c1,c2,c3,c4⟩:=HS.out _ hg;go_simp;exact Uv _
     refine hQ (Dc (fun w' hg=>HP.out _) (hQ (AC (fun z w' hg=>?_) ?_)))
     ·obtain⟨c1,c2,c3,c4⟩:=HS.out _ hg;go_simp;exact Uv _
     exact hQ (Dc (fun w' hg=>HQ.out _) (Dc (fun w' hg=>HT3.out _) (BV Aj)))
    case halz3=>
     intro o ho a1 w1 K hK;obtain rfl:=Uf ho;go_simp;exact hK _ rfl
    case hTz3=>
     intro z wx hz hbz hgz;simp only[ny];have h4:=h1.grew hgz;have h5:=h2.grew hgz;have h6:=h3.grew hgz;have b8:=b8.grew hgz;have b9:=b9.grew hgz;have hG6:=hG5.trans hgz;clear h1 h2 h3 hG5 hgz HS;generalize hz10:z=z10 at*;clear hz10 hz;have b10:=hbz;clear hbz;have HSz:=UX (show ∀w',A5 wx.drew w'→w'.cell? ⟨w.heap.size,0,none⟩=some (.int .i64 n1)∧w'.cell? ⟨w.heap.size+1,0,none⟩=some (.int .i64 n2)∧AK w' z8 147 (AI (dg (x1*q))).toArray∧AK w' z9 147 (AI (dg (x2*p))).toArray∧AK w' z10 147 (AI (dg (p*q))).toArray from fun w' g=>⟨((h4.drewN 1).grew g).cell 0,((h5.drewN 1).grew g).cell 0,(b8.drewN 1).grew g,(b9.drewN 1).grew g,(b10.drewN 1).grew g⟩);have c1:wx.cell? ⟨w.heap.size,0,none⟩=some (.int .i64 n1):=h4.cell 0;have c2:wx.cell? ⟨w.heap.size+1,0,none⟩=some (.int .i64 n2):=h5.cell 0;by_cases hse:sa=sb
     ·have HL:=UX (fun w'=>Ch sa (x1*q+x2*p) (p*q) (n1*q+n2*p) w' (by have:=HB.out;omega) HB.out.2.2.1 HB.out.2.2.2 (by have:=JY (p:=p) (q:=q) hsa (hsb.trans hse.symm);rwa[hx1e,hx2e]at this));rw[hred]at HL;simp only[BS]at HL;have HAr:=UX (fun w'=>Ez (x1*q) (x2*p) w' (by have:=HB.out;omega));subst hse;clear hx1e hx2e;go_upto_region 13 with fail;clear c1 c2;refine C8 (by kernel_rfl) 10 [.pointer (some ⟨w.heap.size,0,none⟩),.int .i64 n1,.bool sa,Ar (x1*q),Ar (x2*p),Ar (x1*q+x2*p),Ar (p*q),.tuple #[.agg (AA x y).toArray,.int .i64 er],.agg (AA x y).toArray,.int .i64 er] _ (by kernel_rfl) (by kernel_rfl) (by kernel_rfl) rfl ?kHz4 5 _ _ rfl rfl rfl rfl rfl (.int .i64 er) ?kVz4 24 (.tmp 4) (.tmp 91) (w.heap.size+1+1) (AA x y) (AA 0 0) 24 rfl rfl C1 rfl (BP _ _) (by kernel_rfl) (by kernel_rfl) (by kernel_rfl) (by kernel_rfl) (by kernel_rfl) h6 ?kTz4
      case kHz4=>
       simp only[ny];refine hQ (AC (fun z w' hg=>?_) ?_)
       ·obtain⟨c1,c2,b8,b9,b10⟩:=HSz.out _ hg;go_simp;exact Uv _
       refine hQ (AC (fun z w' hg=>?_) ?_)
       ·obtain⟨c1,c2,b8,b9,b10⟩:=HSz.out _ hg;exact mB (.tmp 8) b8 rN ⟨rfl,Uv _⟩
       refine AC (fun z w' hg=>?_) ?_
       ·obtain⟨c1,c2,b8,b9,b10⟩:=HSz.out _ hg;exact mB (.tmp 9) b9 rN ⟨rfl,Uv _⟩
       refine Dc (fun w' hg=>HAr.out _) (AC (fun z w' hg=>?_) ?_)
       ·obtain⟨c1,c2,b8,b9,b10⟩:=HSz.out _ hg;exact mB (.tmp 10) b10 rN ⟨rfl,Uv _⟩
       exact Dc (fun w' hg=>HL.out _) (hQ (hQ Aj))
      case kVz4=>
       intro w';simp only[ny];go_simp
      case kTz4=>
       intro wa wb hga hbb hkb;dsimp only;simp only[ny];have hGb:=hG6.trans hga;go_wp2_with fail;refine rT rF hbb ?_;rw[HF.out];exact⟨rfl,Uw hGb hkb (fun i hi e=>by omega)⟩
     have t0:(sa==sb)=false:=by simpa using hse
     have tq:decide (sa=sb)=false:=by simpa using hse
     have tn:(!(sa !=sb))=false:=by simpa using hse
     have HLs:=UX (fun w'=>DH (x1*q) (x2*p) w' (by have:=HB.out;omega) (by have:=HB.out;omega));have hq:decide (CQ (x1*q) (x2*p)<0)=decide (x1*q<x2*p):=NF;generalize CQ (x1*q) (x2*p)=cc at*;by_cases hlt:x1*q<x2*p
     ·have u0:decide (cc<0)=true:=by rw[hq];simpa using hlt
      have HL:=UX (fun w'=>Ch sb (x2*p-x1*q) (p*q) (n1*q+n2*p) w' (by have:=HB.out;omega) HB.out.2.2.1 HB.out.2.2.2 (by have:=JU (p:=p) (q:=q) hsa hsb hse (by rw[hx1e,hx2e];omega);rwa[hx1e,hx2e]at this));rw[hred]at HL;simp only[BS]at HL;have HAr:=UX (fun w'=>CZ (x2*p) (x1*q) w' (by omega) (by have:=HB.out;omega));clear hx1e hx2e hq hlt;go_upto_region 15 with(first|(refine lN (.tmp 8) b8 rN ?_)|(refine lN (.tmp 9) b9 rN ?_)|(go_at_call 143;refine(HLs.out _).mono ?_;rintro e wv ⟨rfl,kv⟩;have h4:=h4.grew kv;have h5:=h5.grew kv;have h6:=h6.grew kv;have b8:=b8.grew kv;have b9:=b9.grew kv;have b10:=b10.grew kv;have hG6:=hG6.trans kv;clear HSz;have HSz:=UX (show ∀w',A5 wv.drew w'→w'.cell? ⟨w.heap.size,0,none⟩=some (.int .i64 n1)∧w'.cell? ⟨w.heap.size+1,0,none⟩=some (.int .i64 n2)∧AK w' z8 147 (AI (dg (x1*q))).toArray∧AK w' z9 147 (AI (dg (x2*p))).toArray∧AK w' z10 147 (AI (dg (p*q))).toArray from fun w' g=>⟨((h4.drewN 1).grew g).cell 0,((h5.drewN 1).grew g).cell 0,(b8.drewN 1).grew g,(b9.drewN 1).grew g,(b10.drewN 1).grew g⟩);clear kv)|fail);refine C8 (by kernel_rfl) 10 [.pointer (some ⟨w.heap.size+1,0,none⟩),.int .i64 n2,.bool sb,Ar (x2*p),Ar (x1*q),Ar (x2*p-x1*q),Ar (p*q),.tuple #[.agg (AA x y).toArray,.int .i64 er],.agg (AA x y).toArray,.int .i64 er] _ (by kernel_rfl) (by kernel_rfl) (by kernel_rfl) rfl ?kHz5 5 _ _ rfl rfl rfl rfl rfl (.int .i64 er) ?kVz5 24 (.tmp 4) (.tmp 105) (w.heap.size+1+1) (AA x y) (AA 0 0) 24 rfl rfl C1 rfl (BP _ _) (by kernel_rfl) (by kernel_rfl) (by kernel_rfl) (by kernel_rfl) (by kernel_rfl) h6 ?kTz5
      case kHz5=>
       simp only[ny];refine hQ (AC (fun z w' hg=>?_) ?_)
       ·obtain⟨c1,c2,b8,b9,b10⟩:=HSz.out _ hg;go_simp;exact Uv _
       refine hQ (AC (fun z w' hg=>?_) ?_)
       ·obtain⟨c1,c2,b8,b9,b10⟩:=HSz.out _ hg;exact mB (.tmp 9) b9 rN ⟨rfl,Uv _⟩
       refine AC (fun z w' hg=>?_) ?_
       ·obtain⟨c1,c2,b8,b9,b10⟩:=HSz.out _ hg;exact mB (.tmp 8) b8 rN ⟨rfl,Uv _⟩
       refine Dc (fun w' hg=>HAr.out _) (AC (fun z w' hg=>?_) ?_)
       ·obtain⟨c1,c2,b8,b9,b10⟩:=HSz.out _ hg;exact mB (.tmp 10) b10 rN ⟨rfl,Uv _⟩
       exact Dc (fun w' hg=>HL.out _) (hQ (hQ Aj))
      case kVz5=>
       intro w';simp only[ny];go_simp
      case kTz5=>
       intro wa wb hga hbb hkb;dsimp only;simp only[ny];have hGb:=hG6.trans hga;go_wp2_with fail;refine rT rF hbb ?_;rw[HF.out];exact⟨rfl,Uw hGb hkb (fun i hi e=>by omega)⟩
     have u0:decide (cc<0)=false:=by rw[hq];simpa using hlt
     have HL:=UX (fun w'=>Ch sa (x1*q-x2*p) (p*q) (n1*q+n2*p) w' (by have:=HB.out;omega) HB.out.2.2.1 HB.out.2.2.2 (by have:=Jp (p:=p) (q:=q) hsa hsb hse (by rw[hx1e,hx2e];omega);rwa[hx1e,hx2e]at this));rw[hred]at HL;simp only[BS]at HL;have HAr:=UX (fun w'=>CZ (x1*q) (x2*p) w' (by omega) (by have:=HB.out;omega));clear hx1e hx2e hq hlt;go_upto_region 16 with(first|(refine lN (.tmp 8) b8 rN ?_)|(refine lN (.tmp 9) b9 rN ?_)|(go_at_call 143;refine(HLs.out _).mono ?_;rintro e wv ⟨rfl,kv⟩;have h4:=h4.grew kv;have h5:=h5.grew kv;have h6:=h6.grew kv;have b8:=b8.grew kv;have b9:=b9.grew kv;have b10:=b10.grew kv;have hG6:=hG6.trans kv;clear HSz;have HSz:=UX (show ∀w',A5 wv.drew w'→w'.cell? ⟨w.heap.size,0,none⟩=some (.int .i64 n1)∧w'.cell? ⟨w.heap.size+1,0,none⟩=some (.int .i64 n2)∧AK w' z8 147 (AI (dg (x1*q))).toArray∧AK w' z9 147 (AI (dg (x2*p))).toArray∧AK w' z10 147 (AI (dg (p*q))).toArray from fun w' g=>⟨((h4.drewN 1).grew g).cell 0,((h5.drewN 1).grew g).cell 0,(b8.drewN 1).grew g,(b9.drewN 1).grew g,(b10.drewN 1).grew g⟩);clear kv)|fail);refine C8 (by kernel_rfl) 10 [.pointer (some ⟨w.heap.size,0,none⟩),.int .i64 n1,.bool sa,Ar (x1*q),Ar (x2*p),Ar (x1*q-x2*p),Ar (p*q),.tuple #[.agg (AA x y).toArray,.int .i64 er],.agg (AA x y).toArray,.int .i64 er] _ (by kernel_rfl) (by kernel_rfl) (by kernel_rfl) rfl ?kHz6 5 _ _ rfl rfl rfl rfl rfl (.int .i64 er) ?kVz6 24 (.tmp 4) (.tmp 115) (w.heap.size+1+1) (AA x y) (AA 0 0) 24 rfl rfl C1 rfl (BP _ _) (by kernel_rfl) (by kernel_rfl) (by kernel_rfl) (by kernel_rfl) (by kernel_rfl) h6 ?kTz6
     case kHz6=>
      simp only[ny];refine hQ (AC (fun z w' hg=>?_) ?_)
      ·obtain⟨c1,c2,b8,b9,b10⟩:=HSz.out _ hg;go_simp;exact Uv _
      refine hQ (AC (fun z w' hg=>?_) ?_)
      ·obtain⟨c1,c2,b8,b9,b10⟩:=HSz.out _ hg;exact mB (.tmp 8) b8 rN ⟨rfl,Uv _⟩
      refine AC (fun z w' hg=>?_) ?_
      ·obtain⟨c1,c2,b8,b9,b10⟩:=HSz.out _ hg;exact mB (.tmp 9) b9 rN ⟨rfl,Uv _⟩
      refine Dc (fun w' hg=>HAr.out _) (AC (fun z w' hg=>?_) ?_)
      ·obtain⟨c1,c2,b8,b9,b10⟩:=HSz.out _ hg;exact mB (.tmp 10) b10 rN ⟨rfl,Uv _⟩
      exact Dc (fun w' hg=>HL.out _) (hQ (hQ Aj))
     case kVz6=>
      intro w';simp only[ny];go_simp
     case kTz6=>
      intro wa wb hga hbb hkb;dsimp only;simp only[ny];have hGb:=hG6.trans hga;go_wp2_with fail;refine rT rF hbb ?_;rw[HF.out];exact⟨rfl,Uw hGb hkb (fun i hi e=>by omega)⟩
 exact absurd ⟨rfl,rfl⟩ hss
end Go.Proofs.YtkclnhpofkaclaaGreatDoor
