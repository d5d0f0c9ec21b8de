/- What the card of the law stands on: TMul, TFail, PlanPl, DeclR, Rws, Visit, LateI, Shape, SizeW, CutW. -/
import Derived.Test.YthpflelgbadkcaaGreatDoorRewriteTypesP35
import Derived.Test.YthpflelgbadkcaaGreatDoorRewriteTypesP02
import Derived.Test.YthpflelgbadkcaaGreatDoorRewriteTypesP11
import Derived.Test.YthpflelgbadkcaaGreatDoorRewriteTypesP40
import Derived.Test.YthpflelgbadkcaaGreatDoorRewriteTypesP07
import Derived.Test.YthpflelgbadkcaaGreatDoorRewriteTypesP04
import Derived.Test.YthpflelgbadkcaaGreatDoorRewriteTypesP06
import Derived.Test.YthpflelgbadkcaaGreatDoorRewriteTypesP08
import Derived.Test.YthpflelgbadkcaaGreatDoorRewriteTypesP39
import Derived.Deep.OwnRows
import Derived.Test.YthpflelgbadkcaaGreatDoorRewriteTypesP31
import Derived.Test.YthpflelgbadkcaaGreatDoorRewriteTypesP32
import Derived.Test.YthpflelgbadkcaaGreatDoorRewriteTypesP01
import Derived.RangeFuncNested
import Derived.RangeFuncCalls
import Derived.OwnWalkIn
import Derived.Test.YthpflelgbadkcaaGreatDoorRewriteTypesP10
import Derived.Test.YthpflelgbadkcaaGreatDoorRewriteTypesP19
import Derived.Deep.DeepCutAuto
import Derived.Great.BuildSlice
set_option maxRecDepth 100000
set_option maxHeartbeats 12800000
set_option linter.unusedVariables false
set_option linter.unusedSimpArgs false
namespace Go.Proofs.YthpflelgbadkcaaGreatDoor
open Go.RowKit Go.Shelf Pl
theorem Pq (x y:Un) (hx:Cl x=true) (hy:Cl y=true) (w:World):Calls Tryz.prog 111 #[.agg (Aa x).toArray,.agg (Aa y).toArray] w fun e w'=>e= .returned (.agg (Aa (GL x y)).toArray)∧A4 w w':=by
 obtain⟨a0,a1,a2⟩:=x;obtain⟨b0,b1,b2⟩:=y;unfold Cl at hx hy;simp only[Bool.and_eq_true,decide_eq_true_eq]at hx hy;obtain⟨⟨l0,u0⟩,⟨l1,u1⟩,l2,u2⟩:=hx;obtain⟨⟨m0,v0⟩,⟨m1,v1⟩,m2,v2⟩:=hy;have h2:=VW w 51 (Aa (a0,a1,a2)).toArray;have k2:=(VU w).alloc (.cells (Aa (a0,a1,a2)).toArray 51);go_enter Tryz.func111,Tryz.ntmps111;go_upto_region 1 with fail;change Code.wp _ _ _ _ (((w.alloc (.cells (Aa (a0,a1,a2)).toArray 51)).alloc (.cells (Aa (b0,b1,b2)).toArray 51)).alloc (.cells (Aa (0,0,0)).toArray 51));generalize hw1:w.alloc (.cells (Aa (a0,a1,a2)).toArray 51)=w1 at*;have h3:=VW w1 51 (Aa (b0,b1,b2)).toArray;have k3:=k2.alloc (.cells (Aa (b0,b1,b2)).toArray 51);have h23:=h2.alloc (.cells (Aa (b0,b1,b2)).toArray 51);generalize hw2:w1.alloc (.cells (Aa (b0,b1,b2)).toArray 51)=w2 at*;have h4:=VW w2 51 (Aa (0,0,0)).toArray;have k4:=k3.alloc (.cells (Aa (0,0,0)).toArray 51);have h24:=h23.alloc (.cells (Aa (0,0,0)).toArray 51);have h34:=h3.alloc (.cells (Aa (0,0,0)).toArray 51);generalize w2.alloc (.cells (Aa (0,0,0)).toArray 51)=w3 at*;have s1:w1.heap.size=w.heap.size+1:=by rw[←hw1];simp
 have s2:w2.heap.size=w1.heap.size+1:=by rw[←hw2];simp
 obtain⟨g2,hg2⟩:∃g,w.heap.size=g:=⟨_,rfl⟩;rw[hg2]at s1;rw[s1]at s2;obtain⟨g3,hg3⟩:∃g,g2+1=g:=⟨_,rfl⟩;obtain⟨g4,hg4⟩:∃g,g2+1+1=g:=⟨_,rfl⟩;have HS:=V3 (show w.heap.size≤g2∧g3≠g2∧g4≠g2∧w.heap.size≤g4 from by omega);rw[hg2]at h24 ⊢;rw[s1,hg3]at h34;rw[s2,hg4]at h4
 first|rw[hg4]|rw[show g2+2=g4 from hg4]
 rw[hg3];have HBa:=V3 h24;have HBb:=V3 h34;have HB4:=V3 h4;have HG:=V3 k4;clear h2 h3 h4 k2 k3 k4 h23 h24 h34 hw1 hw2 s1 s2 hg2 hg3 hg4;go_wp2_with fail;go_loopw [6] (fun i wr=>∃(j:Nat) (x:Un),j≤3∧i= .int .i64 (j:Nat)∧(j=0∧x=(a0,a1,a2)∨j=1∧x=(a0+b0,a1,a2)∨j=2∧x=(a0+b0,a1+b1,a2)∨j=3∧x=(a0+b0,a1+b1,a2+b2))∧AR wr g2 51 (Aa x).toArray∧AR wr g3 51 (Aa (b0,b1,b2)).toArray∧AR wr g4 51 (Aa (0,0,0)).toArray∧A4 w wr) (fun i _=>3-(intOf i).toNat)
 case atStart=>exact⟨0,_,by omega,rfl,.inl ⟨rfl,rfl⟩,HBa.out,HBb.out,HB4.out,HG.out⟩
 case round=>
  obtain⟨j,x,hj,rfl,hm,hba,hbb,hb4,hG⟩:=hrel;obtain⟨hs0,hs1,hs2,hs3⟩:=HS.out;clear HBa HBb HB4 HG;have HBa:=V3 hba;have HBb:=V3 hbb;have HB4:=V3 hb4;have HG:=V3 hG;clear hba hbb hb4 hG;rcases hm with hj0|hj1|hj2|hj3
  ·obtain⟨rfl,rfl⟩:=hj0;have c1:wr.cell? ⟨g2,0,none⟩=some (.int .i64 a0):=HBa.out.cell 0;clear c1;go_upto_region 4 with fail;have gd:A4 wr wr.drew:=VX (VU wr);refine lR 8 (fun w'=>A4 wr.drew w') (VU _) fun hcl hkn=>?_
   try simp only[nf]
   refine tP (i:=0) hcl hkn fun hcl hkn=>?_
   try simp only[nf]
   refine tP (i:=1) hcl hkn fun hcl hkn=>?_
   try simp only[nf]
   refine' BK [6] 8 _ (i:=2) (v:=_) rfl (by kernel_rfl) (by kernel_rfl) (by kernel_rfl) hcl hkn (by rfl) 0 rfl (by kernel_rfl) (fun _ _ _ h=>h) rfl ?_ ?_
   rotate_left
   ·intro w' hA;have hc:w'.cell? ⟨g2,0,none⟩=some (.int .i64 a0):=(HBa.out.drew.grew hA).cell 0;go_simp;try with_reducible rfl
   clear hcl hkn;intro hcl hkn
   try simp only[nf]
   refine tP (i:=3) hcl hkn fun hcl hkn=>?_
   try simp only[nf]
   refine tP (i:=4) hcl hkn fun hcl hkn=>?_
   try simp only[nf]
   refine' BK [6] 8 _ (i:=5) (v:=_) rfl (by kernel_rfl) (by kernel_rfl) (by kernel_rfl) hcl hkn (by rfl) 0 rfl (by kernel_rfl) (fun _ _ _ h=>h) rfl ?_ ?_
   rotate_left
   ·intro w' hA;have hc:w'.cell? ⟨g3,0,none⟩=some (.int .i64 b0):=(HBb.out.drew.grew hA).cell 0;go_simp;try with_reducible rfl
   clear hcl hkn;intro hcl hkn
   try simp only[nf]
   refine tP (i:=6) hcl hkn fun hcl hkn=>?_
   try simp only[nf]
   refine tP (i:=7) hcl hkn fun hcl hkn=>?_
   try simp only[nf]
   have c8:wr.drew.cell? ⟨g2,0,none⟩=some (.int .i64 a0):=HBa.out.drew.cell 0;have f8:wr.drew.frozen? ⟨g2,0,none⟩=false:=HBa.out.drew.frozen 0;refine oN (i:=8) hcl fun K hK=>?_
   go_simp;refine hK _ _ kl ?_;clear hK K;clear hcl hkn;intro hcl hkn
   try simp only[nf]
   refine aD ?_;clear hcl hkn c8 f8;have HBn:=V3 (show AR (wr.drew.setCell ⟨g2,0,none⟩ (.int .i64 (a0+b0))) g2 51 (Aa (a0+b0,a1,a2)).toArray from HBa.out.drew.set_ 0 _);have HBm:=V3 (show AR (wr.drew.setCell ⟨g2,0,none⟩ (.int .i64 (a0+b0))) g3 51 (Aa (b0,b1,b2)).toArray from HBb.out.drew.far (by show g3≠g2;omega) _);have HBz:=V3 (show AR (wr.drew.setCell ⟨g2,0,none⟩ (.int .i64 (a0+b0))) g4 51 (Aa (0,0,0)).toArray from HB4.out.drew.far (by show g4≠g2;omega) _);have HGn:=V3 (show A4 w (wr.drew.setCell ⟨g2,0,none⟩ (.int .i64 (a0+b0)))from VZ (HG.out.trans gd) (.inr (by show w.heap.size≤g2;omega)) _);go_wp2_with fail;go_roundw
   case rel=>exact⟨1,_,by omega,by go_num,.inr (.inl ⟨rfl,rfl⟩),HBn.out,HBm.out,HBz.out,HGn.out⟩
   case measure=>simp[intOf]
  ·obtain⟨rfl,rfl⟩:=hj1;have c1:wr.cell? ⟨g2,1,none⟩=some (.int .i64 a1):=HBa.out.cell 1;clear c1;go_upto_region 4 with fail;have gd:A4 wr wr.drew:=VX (VU wr);refine lR 8 (fun w'=>A4 wr.drew w') (VU _) fun hcl hkn=>?_
   try simp only[nf]
   refine tP (i:=0) hcl hkn fun hcl hkn=>?_
   try simp only[nf]
   refine tP (i:=1) hcl hkn fun hcl hkn=>?_
   try simp only[nf]
   refine' BK [6] 8 _ (i:=2) (v:=_) rfl (by kernel_rfl) (by kernel_rfl) (by kernel_rfl) hcl hkn (by rfl) 0 rfl (by kernel_rfl) (fun _ _ _ h=>h) rfl ?_ ?_
   rotate_left
   ·intro w' hA;have hc:w'.cell? ⟨g2,1,none⟩=some (.int .i64 a1):=(HBa.out.drew.grew hA).cell 1;go_simp;try with_reducible rfl
   clear hcl hkn;intro hcl hkn
   try simp only[nf]
   refine tP (i:=3) hcl hkn fun hcl hkn=>?_
   try simp only[nf]
   refine tP (i:=4) hcl hkn fun hcl hkn=>?_
   try simp only[nf]
   refine' BK [6] 8 _ (i:=5) (v:=_) rfl (by kernel_rfl) (by kernel_rfl) (by kernel_rfl) hcl hkn (by rfl) 0 rfl (by kernel_rfl) (fun _ _ _ h=>h) rfl ?_ ?_
   rotate_left
   ·intro w' hA;have hc:w'.cell? ⟨g3,1,none⟩=some (.int .i64 b1):=(HBb.out.drew.grew hA).cell 1;go_simp;try with_reducible rfl
   clear hcl hkn;intro hcl hkn
   try simp only[nf]
   refine tP (i:=6) hcl hkn fun hcl hkn=>?_
   try simp only[nf]
   refine tP (i:=7) hcl hkn fun hcl hkn=>?_
   try simp only[nf]
   have c8:wr.drew.cell? ⟨g2,1,none⟩=some (.int .i64 a1):=HBa.out.drew.cell 1;have f8:wr.drew.frozen? ⟨g2,1,none⟩=false:=HBa.out.drew.frozen 1;refine oN (i:=8) hcl fun K hK=>?_
   go_simp;refine hK _ _ kl ?_;clear hK K;clear hcl hkn;intro hcl hkn
   try simp only[nf]
   refine aD ?_;clear hcl hkn c8 f8;have HBn:=V3 (show AR (wr.drew.setCell ⟨g2,1,none⟩ (.int .i64 (a1+b1))) g2 51 (Aa (a0+b0,a1+b1,a2)).toArray from HBa.out.drew.set_ 1 _);have HBm:=V3 (show AR (wr.drew.setCell ⟨g2,1,none⟩ (.int .i64 (a1+b1))) g3 51 (Aa (b0,b1,b2)).toArray from HBb.out.drew.far (by show g3≠g2;omega) _);have HBz:=V3 (show AR (wr.drew.setCell ⟨g2,1,none⟩ (.int .i64 (a1+b1))) g4 51 (Aa (0,0,0)).toArray from HB4.out.drew.far (by show g4≠g2;omega) _);have HGn:=V3 (show A4 w (wr.drew.setCell ⟨g2,1,none⟩ (.int .i64 (a1+b1)))from VZ (HG.out.trans gd) (.inr (by show w.heap.size≤g2;omega)) _);go_wp2_with fail;go_roundw
   case rel=>exact⟨2,_,by omega,by go_num,.inr (.inr (.inl ⟨rfl,rfl⟩)),HBn.out,HBm.out,HBz.out,HGn.out⟩
   case measure=>simp[intOf]
  ·obtain⟨rfl,rfl⟩:=hj2;have c1:wr.cell? ⟨g2,2,none⟩=some (.int .i64 a2):=HBa.out.cell 2;clear c1;go_upto_region 4 with fail;have gd:A4 wr wr.drew:=VX (VU wr);refine lR 8 (fun w'=>A4 wr.drew w') (VU _) fun hcl hkn=>?_
   try simp only[nf]
   refine tP (i:=0) hcl hkn fun hcl hkn=>?_
   try simp only[nf]
   refine tP (i:=1) hcl hkn fun hcl hkn=>?_
   try simp only[nf]
   refine' BK [6] 8 _ (i:=2) (v:=_) rfl (by kernel_rfl) (by kernel_rfl) (by kernel_rfl) hcl hkn (by rfl) 0 rfl (by kernel_rfl) (fun _ _ _ h=>h) rfl ?_ ?_
   rotate_left
   ·intro w' hA;have hc:w'.cell? ⟨g2,2,none⟩=some (.int .i64 a2):=(HBa.out.drew.grew hA).cell 2;go_simp;try with_reducible rfl
   clear hcl hkn;intro hcl hkn
   try simp only[nf]
   refine tP (i:=3) hcl hkn fun hcl hkn=>?_
   try simp only[nf]
   refine tP (i:=4) hcl hkn fun hcl hkn=>?_
   try simp only[nf]
   refine' BK [6] 8 _ (i:=5) (v:=_) rfl (by kernel_rfl) (by kernel_rfl) (by kernel_rfl) hcl hkn (by rfl) 0 rfl (by kernel_rfl) (fun _ _ _ h=>h) rfl ?_ ?_
   rotate_left
   ·intro w' hA;have hc:w'.cell? ⟨g3,2,none⟩=some (.int .i64 b2):=(HBb.out.drew.grew hA).cell 2;go_simp;try with_reducible rfl
   clear hcl hkn;intro hcl hkn
   try simp only[nf]
   refine tP (i:=6) hcl hkn fun hcl hkn=>?_
   try simp only[nf]
   refine tP (i:=7) hcl hkn fun hcl hkn=>?_
   try simp only[nf]
   have c8:wr.drew.cell? ⟨g2,2,none⟩=some (.int .i64 a2):=HBa.out.drew.cell 2;have f8:wr.drew.frozen? ⟨g2,2,none⟩=false:=HBa.out.drew.frozen 2;refine oN (i:=8) hcl fun K hK=>?_
   go_simp;refine hK _ _ kl ?_;clear hK K;clear hcl hkn;intro hcl hkn
   try simp only[nf]
   refine aD ?_;clear hcl hkn c8 f8;have HBn:=V3 (show AR (wr.drew.setCell ⟨g2,2,none⟩ (.int .i64 (a2+b2))) g2 51 (Aa (a0+b0,a1+b1,a2+b2)).toArray from HBa.out.drew.set_ 2 _);have HBm:=V3 (show AR (wr.drew.setCell ⟨g2,2,none⟩ (.int .i64 (a2+b2))) g3 51 (Aa (b0,b1,b2)).toArray from HBb.out.drew.far (by show g3≠g2;omega) _);have HBz:=V3 (show AR (wr.drew.setCell ⟨g2,2,none⟩ (.int .i64 (a2+b2))) g4 51 (Aa (0,0,0)).toArray from HB4.out.drew.far (by show g4≠g2;omega) _);have HGn:=V3 (show A4 w (wr.drew.setCell ⟨g2,2,none⟩ (.int .i64 (a2+b2)))from VZ (HG.out.trans gd) (.inr (by show w.heap.size≤g2;omega)) _);go_wp2_with fail;go_roundw
   case rel=>exact⟨3,_,by omega,by go_num,.inr (.inr (.inr ⟨rfl,rfl⟩)),HBn.out,HBm.out,HBz.out,HGn.out⟩
   case measure=>simp[intOf]
  obtain⟨rfl,rfl⟩:=hj3;have hb2:=HBa.out;have hb4:=HB4.out;have HON:=V3 (B4 (a0+b0,a1+b1,a2+b2));clear HBa HB4;go_wp2_with(first|(refine lN (.tmp 2) hb2 KH ?_)|(refine sN (.tmp 4) (.tmp 18) (Aa (a0+b0,a1+b1,a2+b2)) hb4 KH ?_ (h1:=HON.out);intro w8 hb8 k8 d8;have HB8:=V3 hb8;have HK8:=V3 k8;clear hb8 k8 d8)|fail);refine rO KH HB8.out ?_;exact⟨rfl,VV HG.out HK8.out fun i hi e=>by omega⟩
theorem Q3 (x y:Un) (hx:Cl x=true) (hy:Cl y=true) (w:World):Calls Tryz.prog 112 #[.agg (Aa x).toArray,.agg (Aa y).toArray] w fun e w'=>e= .returned (.agg (Aa (IR x y)).toArray)∧A4 w w':=by
 obtain⟨a0,a1,a2⟩:=x;obtain⟨b0,b1,b2⟩:=y;unfold Cl at hx hy;simp only[Bool.and_eq_true,decide_eq_true_eq]at hx hy;obtain⟨⟨l0,u0⟩,⟨l1,u1⟩,l2,u2⟩:=hx;obtain⟨⟨m0,v0⟩,⟨m1,v1⟩,m2,v2⟩:=hy;have h2:=VW w 51 (Aa (a0,a1,a2)).toArray;have k2:=(VU w).alloc (.cells (Aa (a0,a1,a2)).toArray 51);go_enter Tryz.func112,Tryz.ntmps112;go_upto_region 1 with fail;change Code.wp _ _ _ _ (((w.alloc (.cells (Aa (a0,a1,a2)).toArray 51)).alloc (.cells (Aa (b0,b1,b2)).toArray 51)).alloc (.cells (Aa (0,0,0)).toArray 51));generalize hw1:w.alloc (.cells (Aa (a0,a1,a2)).toArray 51)=w1 at*;have h3:=VW w1 51 (Aa (b0,b1,b2)).toArray;have k3:=k2.alloc (.cells (Aa (b0,b1,b2)).toArray 51);have h23:=h2.alloc (.cells (Aa (b0,b1,b2)).toArray 51);generalize hw2:w1.alloc (.cells (Aa (b0,b1,b2)).toArray 51)=w2 at*;have h4:=VW w2 51 (Aa (0,0,0)).toArray;have k4:=k3.alloc (.cells (Aa (0,0,0)).toArray 51);have h24:=h23.alloc (.cells (Aa (0,0,0)).toArray 51);have h34:=h3.alloc (.cells (Aa (0,0,0)).toArray 51);generalize w2.alloc (.cells (Aa (0,0,0)).toArray 51)=w3 at*;have s1:w1.heap.size=w.heap.size+1:=by rw[←hw1];simp
 have s2:w2.heap.size=w1.heap.size+1:=by rw[←hw2];simp
 obtain⟨g2,hg2⟩:∃g,w.heap.size=g:=⟨_,rfl⟩;rw[hg2]at s1;rw[s1]at s2;obtain⟨g3,hg3⟩:∃g,g2+1=g:=⟨_,rfl⟩;obtain⟨g4,hg4⟩:∃g,g2+1+1=g:=⟨_,rfl⟩;have HS:=V3 (show w.heap.size≤g2∧g3≠g2∧g4≠g2∧w.heap.size≤g4 from by omega);rw[hg2]at h24 ⊢;rw[s1,hg3]at h34;rw[s2,hg4]at h4
 first|rw[hg4]|rw[show g2+2=g4 from hg4]
 rw[hg3];have HBa:=V3 h24;have HBb:=V3 h34;have HB4:=V3 h4;have HG:=V3 k4;clear h2 h3 h4 k2 k3 k4 h23 h24 h34 hw1 hw2 s1 s2 hg2 hg3 hg4;go_wp2_with fail;go_loopw [6] (fun i wr=>∃(j:Nat) (x:Un),j≤3∧i= .int .i64 (j:Nat)∧(j=0∧x=(a0,a1,a2)∨j=1∧x=(a0-b0,a1,a2)∨j=2∧x=(a0-b0,a1-b1,a2)∨j=3∧x=(a0-b0,a1-b1,a2-b2))∧AR wr g2 51 (Aa x).toArray∧AR wr g3 51 (Aa (b0,b1,b2)).toArray∧AR wr g4 51 (Aa (0,0,0)).toArray∧A4 w wr) (fun i _=>3-(intOf i).toNat)
 case atStart=>exact⟨0,_,by omega,rfl,.inl ⟨rfl,rfl⟩,HBa.out,HBb.out,HB4.out,HG.out⟩
 case round=>
  obtain⟨j,x,hj,rfl,hm,hba,hbb,hb4,hG⟩:=hrel;obtain⟨hs0,hs1,hs2,hs3⟩:=HS.out;clear HBa HBb HB4 HG;have HBa:=V3 hba;have HBb:=V3 hbb;have HB4:=V3 hb4;have HG:=V3 hG;clear hba hbb hb4 hG;rcases hm with hj0|hj1|hj2|hj3
  ·obtain⟨rfl,rfl⟩:=hj0;have c1:wr.cell? ⟨g2,0,none⟩=some (.int .i64 a0):=HBa.out.cell 0;clear c1;go_upto_region 4 with fail;have gd:A4 wr wr.drew:=VX (VU wr);refine lR 8 (fun w'=>A4 wr.drew w') (VU _) fun hcl hkn=>?_
   try simp only[nf]
   refine tP (i:=0) hcl hkn fun hcl hkn=>?_
   try simp only[nf]
   refine tP (i:=1) hcl hkn fun hcl hkn=>?_
   try simp only[nf]
   refine' BK [6] 8 _ (i:=2) (v:=_) rfl (by kernel_rfl) (by kernel_rfl) (by kernel_rfl) hcl hkn (by rfl) 0 rfl (by kernel_rfl) (fun _ _ _ h=>h) rfl ?_ ?_
   rotate_left
   ·intro w' hA;have hc:w'.cell? ⟨g2,0,none⟩=some (.int .i64 a0):=(HBa.out.drew.grew hA).cell 0;go_simp;try with_reducible rfl
   clear hcl hkn;intro hcl hkn
   try simp only[nf]
   refine tP (i:=3) hcl hkn fun hcl hkn=>?_
   try simp only[nf]
   refine tP (i:=4) hcl hkn fun hcl hkn=>?_
   try simp only[nf]
   refine' BK [6] 8 _ (i:=5) (v:=_) rfl (by kernel_rfl) (by kernel_rfl) (by kernel_rfl) hcl hkn (by rfl) 0 rfl (by kernel_rfl) (fun _ _ _ h=>h) rfl ?_ ?_
   rotate_left
   ·intro w' hA;have hc:w'.cell? ⟨g3,0,none⟩=some (.int .i64 b0):=(HBb.out.drew.grew hA).cell 0;go_simp;try with_reducible rfl
   clear hcl hkn;intro hcl hkn
   try simp only[nf]
   refine tP (i:=6) hcl hkn fun hcl hkn=>?_
   try simp only[nf]
   refine tP (i:=7) hcl hkn fun hcl hkn=>?_
   try simp only[nf]
   have c8:wr.drew.cell? ⟨g2,0,none⟩=some (.int .i64 a0):=HBa.out.drew.cell 0;have f8:wr.drew.frozen? ⟨g2,0,none⟩=false:=HBa.out.drew.frozen 0;refine oN (i:=8) hcl fun K hK=>?_
   go_simp;refine hK _ _ kl ?_;clear hK K;clear hcl hkn;intro hcl hkn
   try simp only[nf]
   refine aD ?_;clear hcl hkn c8 f8;have HBn:=V3 (show AR (wr.drew.setCell ⟨g2,0,none⟩ (.int .i64 (a0-b0))) g2 51 (Aa (a0-b0,a1,a2)).toArray from HBa.out.drew.set_ 0 _);have HBm:=V3 (show AR (wr.drew.setCell ⟨g2,0,none⟩ (.int .i64 (a0-b0))) g3 51 (Aa (b0,b1,b2)).toArray from HBb.out.drew.far (by show g3≠g2;omega) _);have HBz:=V3 (show AR (wr.drew.setCell ⟨g2,0,none⟩ (.int .i64 (a0-b0))) g4 51 (Aa (0,0,0)).toArray from HB4.out.drew.far (by show g4≠g2;omega) _);have HGn:=V3 (show A4 w (wr.drew.setCell ⟨g2,0,none⟩ (.int .i64 (a0-b0)))from VZ (HG.out.trans gd) (.inr (by show w.heap.size≤g2;omega)) _);go_wp2_with fail;go_roundw
   case rel=>exact⟨1,_,by omega,by go_num,.inr (.inl ⟨rfl,rfl⟩),HBn.out,HBm.out,HBz.out,HGn.out⟩
   case measure=>simp[intOf]
  ·obtain⟨rfl,rfl⟩:=hj1;have c1:wr.cell? ⟨g2,1,none⟩=some (.int .i64 a1):=HBa.out.cell 1;clear c1;go_upto_region 4 with fail;have gd:A4 wr wr.drew:=VX (VU wr);refine lR 8 (fun w'=>A4 wr.drew w') (VU _) fun hcl hkn=>?_
   try simp only[nf]
   refine tP (i:=0) hcl hkn fun hcl hkn=>?_
   try simp only[nf]
   refine tP (i:=1) hcl hkn fun hcl hkn=>?_
   try simp only[nf]
   refine' BK [6] 8 _ (i:=2) (v:=_) rfl (by kernel_rfl) (by kernel_rfl) (by kernel_rfl) hcl hkn (by rfl) 0 rfl (by kernel_rfl) (fun _ _ _ h=>h) rfl ?_ ?_
   rotate_left
   ·intro w' hA;have hc:w'.cell? ⟨g2,1,none⟩=some (.int .i64 a1):=(HBa.out.drew.grew hA).cell 1;go_simp;try with_reducible rfl
   clear hcl hkn;intro hcl hkn
   try simp only[nf]
   refine tP (i:=3) hcl hkn fun hcl hkn=>?_
   try simp only[nf]
   refine tP (i:=4) hcl hkn fun hcl hkn=>?_
   try simp only[nf]
   refine' BK [6] 8 _ (i:=5) (v:=_) rfl (by kernel_rfl) (by kernel_rfl) (by kernel_rfl) hcl hkn (by rfl) 0 rfl (by kernel_rfl) (fun _ _ _ h=>h) rfl ?_ ?_
   rotate_left
   ·intro w' hA;have hc:w'.cell? ⟨g3,1,none⟩=some (.int .i64 b1):=(HBb.out.drew.grew hA).cell 1;go_simp;try with_reducible rfl
   clear hcl hkn;intro hcl hkn
   try simp only[nf]
   refine tP (i:=6) hcl hkn fun hcl hkn=>?_
   try simp only[nf]
   refine tP (i:=7) hcl hkn fun hcl hkn=>?_
   try simp only[nf]
   have c8:wr.drew.cell? ⟨g2,1,none⟩=some (.int .i64 a1):=HBa.out.drew.cell 1;have f8:wr.drew.frozen? ⟨g2,1,none⟩=false:=HBa.out.drew.frozen 1;refine oN (i:=8) hcl fun K hK=>?_
   go_simp;refine hK _ _ kl ?_;clear hK K;clear hcl hkn;intro hcl hkn
   try simp only[nf]
   refine aD ?_;clear hcl hkn c8 f8;have HBn:=V3 (show AR (wr.drew.setCell ⟨g2,1,none⟩ (.int .i64 (a1-b1))) g2 51 (Aa (a0-b0,a1-b1,a2)).toArray from HBa.out.drew.set_ 1 _);have HBm:=V3 (show AR (wr.drew.setCell ⟨g2,1,none⟩ (.int .i64 (a1-b1))) g3 51 (Aa (b0,b1,b2)).toArray from HBb.out.drew.far (by show g3≠g2;omega) _);have HBz:=V3 (show AR (wr.drew.setCell ⟨g2,1,none⟩ (.int .i64 (a1-b1))) g4 51 (Aa (0,0,0)).toArray from HB4.out.drew.far (by show g4≠g2;omega) _);have HGn:=V3 (show A4 w (wr.drew.setCell ⟨g2,1,none⟩ (.int .i64 (a1-b1)))from VZ (HG.out.trans gd) (.inr (by show w.heap.size≤g2;omega)) _);go_wp2_with fail;go_roundw
   case rel=>exact⟨2,_,by omega,by go_num,.inr (.inr (.inl ⟨rfl,rfl⟩)),HBn.out,HBm.out,HBz.out,HGn.out⟩
   case measure=>simp[intOf]
  ·obtain⟨rfl,rfl⟩:=hj2;have c1:wr.cell? ⟨g2,2,none⟩=some (.int .i64 a2):=HBa.out.cell 2;clear c1;go_upto_region 4 with fail;have gd:A4 wr wr.drew:=VX (VU wr);refine lR 8 (fun w'=>A4 wr.drew w') (VU _) fun hcl hkn=>?_
   try simp only[nf]
   refine tP (i:=0) hcl hkn fun hcl hkn=>?_
   try simp only[nf]
   refine tP (i:=1) hcl hkn fun hcl hkn=>?_
   try simp only[nf]
   refine' BK [6] 8 _ (i:=2) (v:=_) rfl (by kernel_rfl) (by kernel_rfl) (by kernel_rfl) hcl hkn (by rfl) 0 rfl (by kernel_rfl) (fun _ _ _ h=>h) rfl ?_ ?_
   rotate_left
   ·intro w' hA;have hc:w'.cell? ⟨g2,2,none⟩=some (.int .i64 a2):=(HBa.out.drew.grew hA).cell 2;go_simp;try with_reducible rfl
   clear hcl hkn;intro hcl hkn
   try simp only[nf]
   refine tP (i:=3) hcl hkn fun hcl hkn=>?_
   try simp only[nf]
   refine tP (i:=4) hcl hkn fun hcl hkn=>?_
   try simp only[nf]
   refine' BK [6] 8 _ (i:=5) (v:=_) rfl (by kernel_rfl) (by kernel_rfl) (by kernel_rfl) hcl hkn (by rfl) 0 rfl (by kernel_rfl) (fun _ _ _ h=>h) rfl ?_ ?_
   rotate_left
   ·intro w' hA;have hc:w'.cell? ⟨g3,2,none⟩=some (.int .i64 b2):=(HBb.out.drew.grew hA).cell 2;go_simp;try with_reducible rfl
   clear hcl hkn;intro hcl hkn
   try simp only[nf]
   refine tP (i:=6) hcl hkn fun hcl hkn=>?_
   try simp only[nf]
   refine tP (i:=7) hcl hkn fun hcl hkn=>?_
   try simp only[nf]
   have c8:wr.drew.cell? ⟨g2,2,none⟩=some (.int .i64 a2):=HBa.out.drew.cell 2;have f8:wr.drew.frozen? ⟨g2,2,none⟩=false:=HBa.out.drew.frozen 2;refine oN (i:=8) hcl fun K hK=>?_
   go_simp;refine hK _ _ kl ?_;clear hK K;clear hcl hkn;intro hcl hkn
   try simp only[nf]
   refine aD ?_;clear hcl hkn c8 f8;have HBn:=V3 (show AR (wr.drew.setCell ⟨g2,2,none⟩ (.int .i64 (a2-b2))) g2 51 (Aa (a0-b0,a1-b1,a2-b2)).toArray from HBa.out.drew.set_ 2 _);have HBm:=V3 (show AR (wr.drew.setCell ⟨g2,2,none⟩ (.int .i64 (a2-b2))) g3 51 (Aa (b0,b1,b2)).toArray from HBb.out.drew.far (by show g3≠g2;omega) _);have HBz:=V3 (show AR (wr.drew.setCell ⟨g2,2,none⟩ (.int .i64 (a2-b2))) g4 51 (Aa (0,0,0)).toArray from HB4.out.drew.far (by show g4≠g2;omega) _);have HGn:=V3 (show A4 w (wr.drew.setCell ⟨g2,2,none⟩ (.int .i64 (a2-b2)))from VZ (HG.out.trans gd) (.inr (by show w.heap.size≤g2;omega)) _);go_wp2_with fail;go_roundw
   case rel=>exact⟨3,_,by omega,by go_num,.inr (.inr (.inr ⟨rfl,rfl⟩)),HBn.out,HBm.out,HBz.out,HGn.out⟩
   case measure=>simp[intOf]
  obtain⟨rfl,rfl⟩:=hj3;have hb2:=HBa.out;have hb4:=HB4.out;have HON:=V3 (B4 (a0-b0,a1-b1,a2-b2));clear HBa HB4;go_wp2_with(first|(refine lN (.tmp 2) hb2 KH ?_)|(refine sN (.tmp 4) (.tmp 18) (Aa (a0-b0,a1-b1,a2-b2)) hb4 KH ?_ (h1:=HON.out);intro w8 hb8 k8 d8;have HB8:=V3 hb8;have HK8:=V3 k8;clear hb8 k8 d8)|fail);refine rO KH HB8.out ?_;exact⟨rfl,VV HG.out HK8.out fun i hi e=>by omega⟩
def E9 (dv:Value) (err:Int):List Value:=[dv,.int .i64 err]
theorem DN (g:Nat) (T:TypeId) (dv:Value) (err:Int) (w:World) (hb:AR w g T (E9 dv 0).toArray):Calls Tryz.prog 79 #[.pointer (some ⟨g,0,none⟩),.int .i64 err] w fun e w'=>e= .returned (.agg (Aa BO).toArray)∧AR w' g T (E9 dv err).toArray∧AA (fun i=>i=g) w w':=by
 have hlt:=hb.lt;have h2:=VW w 51 (Aa BO).toArray;have hb2:=hb.alloc (.cells (Aa BO).toArray 51);have k2:=(VU w).alloc (.cells (Aa BO).toArray 51);go_enter Tryz.func79,Tryz.ntmps79;go_upto_region 1 with fail;change Code.wp _ _ _ _ (w.alloc (.cells (Aa BO).toArray 51));generalize w.alloc (.cells (Aa BO).toArray 51)=w1 at*;have c1:w1.cell? ⟨g,1,none⟩=some (.int .i64 0):=hb2.cell 1;have f1:w1.frozen? ⟨g,1,none⟩=false:=hb2.frozen 1;obtain⟨z,hz⟩:∃z,w.heap.size=z:=⟨_,rfl⟩;rw[hz]at h2 ⊢;have HZ:=V3 (show z≠g∧w.heap.size≤z from⟨by omega,by omega⟩);have HB:=V3 (show AR (w1.setCell ⟨g,1,none⟩ (.int .i64 err)) g T (E9 dv err).toArray from hb2.set_ 1 _);have hx:=h2.far (p:=⟨g,1,none⟩) (by show z≠g;omega) (.int .i64 err);have HK:=V3 (show AA (fun i=>i=g) w (w1.setCell ⟨g,1,none⟩ (.int .i64 err))from VZ (k2.keeps (S:=fun i=>i=g)) (.inl rfl) _);have HO:=V3 (B4 BO);clear hb hb2 h2 k2 hz;go_wp2_with((with_reducible refine AG 51 (.tmp 4) (.tmp 14) rfl ?_);refine BL 51 (.tmp 4) (.tmp 14) z (Aa BO) (Aa BO) 51 Ag rfl HO.out rfl rfl rfl rfl hx ?_;intro w8 hb8 k8 d8;have HB8:=V3 hb8;have HK8:=V3 k8;clear hb8 k8 d8);refine bodyPost_ret (AO rfl rfl Ag Tryz.underlying51 rfl HB8.out) rfl ?_;exact⟨rfl,HB.out.keep HK8.out (fun e=>HZ.out.1 e.symm),VV HK.out HK8.out fun i hi e=>by have:=HZ.out.2;omega⟩
theorem FF (g:Nat) (T:TypeId) (dv:Value) (u:Un) (w:World) (hb:AR w g T (E9 dv 0).toArray):Calls Tryz.prog 110 #[.pointer (some ⟨g,0,none⟩),.agg (Aa u).toArray] w fun e w'=>e= .returned (.agg (Aa (FB u).1).toArray)∧AR w' g T (E9 dv (FB u).2).toArray∧AA (fun i=>i=g) w w':=by
 have hlt:=hb.lt;have h2:=VW w 51 (Aa u).toArray;have hb2:=hb.alloc (.cells (Aa u).toArray 51);have k2:=(VU w).alloc (.cells (Aa u).toArray 51);have HV:=V3 (fun w'=>JY u w');go_enter Tryz.func110,Tryz.ntmps110;go_upto_region 1 with fail;change Code.wp _ _ _ _ ((w.alloc (.cells (Aa u).toArray 51)).alloc (.cells (Aa BO).toArray 51));generalize hw1:w.alloc (.cells (Aa u).toArray 51)=w1 at*;have s1:w1.heap.size=w.heap.size+1:=by rw[←hw1];simp
 clear hw1;have h3:=VW w1 51 (Aa BO).toArray;have hb3:=hb2.alloc (.cells (Aa BO).toArray 51);have h23:=h2.alloc (.cells (Aa BO).toArray 51);have k3:=k2.alloc (.cells (Aa BO).toArray 51);generalize w1.alloc (.cells (Aa BO).toArray 51)=w2 at*;obtain⟨y,hy⟩:∃y,w.heap.size=y:=⟨_,rfl⟩;rw[hy]at s1 h23 ⊢;obtain⟨z,hz⟩:∃z,y+1=z:=⟨_,rfl⟩;rw[s1,hz]at h3;rw[hz];have HZ:=V3 (show z≠g∧w.heap.size≤z from⟨by omega,by omega⟩);have HY:=V3 h23;have H3:=V3 h3;have HB:=V3 hb3;have HK:=V3 k3;have HO:=V3 (V5 (B4 BO) (B4 u));clear hb hb2 h2 k2 hy hz s1 h3 hb3 h23 k3 hlt;by_cases hu:Cl u=true
 ·have HL:=V3 (show FB u=(u,0)from VN hu);rw[hu]at HV;go_wp2_with(first|((with_reducible refine AF 51 (.tmp 3) rfl ?_);first|refine BZ 51 Tryz.underlying51 rfl (.tmp 3) y (Aa u) 51 Ag rfl rfl rfl HY5.out ?_|refine BZ 51 Tryz.underlying51 rfl (.tmp 3) y (Aa u) 51 Ag rfl rfl rfl HY.out ?_)|(go_at_call 109;(with_reducible refine(HV.out _).mono ?_);rintro e5 w5 ⟨rfl,k5⟩;have HY5:=V3 (HY.out.grew k5);have H5:=V3 (H3.out.grew k5);have HB5:=V3 (HB.out.grew k5);have HK5:=V3 (HK.out.trans k5);clear k5)|((with_reducible refine AG 51 (.tmp 4) (.tmp 10) rfl ?_);refine BL 51 (.tmp 4) (.tmp 10) z (Aa u) (Aa BO) 51 Ag rfl HO.out.2 rfl rfl rfl rfl H5.out ?_;intro w8 hb8 k8 d8;have HB8:=V3 hb8;have HK8:=V3 k8;clear hb8 k8 d8));refine bodyPost_ret (AO rfl rfl Ag Tryz.underlying51 rfl HB8.out) rfl ?_;rw[HL.out];exact⟨rfl,HB5.out.keep HK8.out (fun e=>HZ.out.1 e.symm),VV (HK5.out.keeps (S:=fun i=>i=g)) HK8.out fun i hi e=>by have:=HZ.out.2;omega⟩
 have hf:Cl u=false:=by simpa using hu
 have HL:=V3 (show FB u=(BO,4)from VM hu);rw[hf]at HV;have HF:=V3 (fun w' (h:AR w' g T (E9 dv 0).toArray)=>DN g T dv 4 w' h);go_wp2_with(first|((with_reducible refine AF 51 (.tmp 3) rfl ?_);refine BZ 51 Tryz.underlying51 rfl (.tmp 3) y (Aa u) 51 Ag rfl rfl rfl HY.out ?_)|(go_at_call 109;(with_reducible refine(HV.out _).mono ?_);rintro e5 w5 ⟨rfl,k5⟩;have H5:=V3 (H3.out.grew k5);have HB5:=V3 (HB.out.grew k5);have HK5:=V3 (HK.out.trans k5);clear k5)|(go_at_call 79;(with_reducible refine(HF.out _ HB5.out).mono ?_);rintro e6 w6 ⟨rfl,hb6,k6⟩;have H6:=V3 (H5.out.keep k6 (fun e=>HZ.out.1 e));have HB6:=V3 hb6;have HK6:=V3 k6;clear hb6 k6)|((with_reducible refine AG 51 (.tmp 4) (.tmp 9) rfl ?_);refine BL 51 (.tmp 4) (.tmp 9) z (Aa BO) (Aa BO) 51 Ag rfl HO.out.1 rfl rfl rfl rfl H6.out ?_;intro w8 hb8 k8 d8;have HB8:=V3 hb8;have HK8:=V3 k8;clear hb8 k8 d8));refine bodyPost_ret (AO rfl rfl Ag Tryz.underlying51 rfl HB8.out) rfl ?_;rw[HL.out];exact⟨rfl,HB6.out.keep HK8.out (fun e=>HZ.out.1 e.symm),VV (VV (HK5.out.keeps (S:=fun i=>i=g)) HK6.out fun i _ h=>h) HK8.out fun i hi e=>by have:=HZ.out.2;omega⟩
end Go.Proofs.YthpflelgbadkcaaGreatDoor
namespace Go.Proofs.YthpflelgbadkcaaGreatDoor
open Go.RowKit Pl
def Rv (e:Ex) (vm vb:Value):List Value:=[.int .i64 e.kind,.int .i64 e.fn,.int .i64 e.window,.int .i64 e.offset,.int .i64 e.k,.int .i64 e.num,.int .i64 e.den,.string e.name,vm,vb]
def Ui (w:World) (Q:Nat→Prop) (e:Ex) (cs:List Value):Prop:=∃vm vb,cs=Rv e vm vb∧Ba w Q 3 vm (e.ms.map Ac)∧Ba w Q 1 vb (e.bys.map fun s=>[Value.string s])
def UQ (w:World) (Q:Nat→Prop) (v:Value) (es:List Ex):Prop:=
 ∃A c,v= .slice A es.length c∧es.length≤c∧(0<es.length→∃b o,A=some ⟨b,o,none⟩∧Q b∧∀j e,es[j]? =some e→∃cs,w.rangeAt b (o+j*10) cs∧Ui w Q e cs)
section
variable {w w':World} {Q Q':Nat→Prop}
end
section
variable {w w':World} {Q Q':Nat→Prop} {es:List Ex} {rows:List (List Value)}
end
def GT (nm:ByteArray) (v:Value) (x:Fin 10→Int):List Value:=
 [.string nm,v,.int .i64 (x 0),.int .i64 (x 1),.int .i64 (x 2),.int .i64 (x 3),.int .i64 (x 4),.int .i64 (x 5),.int .i64 (x 6),.int .i64 (x 7),.int .i64 (x 8),.int .i64 (x 9)]
abbrev Dc:=ByteArray×List (ByteArray×ByteArray)
section
variable {w w':World} {Q Q':Nat→Prop}
end
def KC {α:Type} (R:World→(Nat→Prop)→α→List Value→Prop):Prop:=∀(w w':World) (Q Q' S:Nat→Prop) (e:α) (cs:List Value),R w Q e cs→(∀b,Q b→b<w.heap.size∧¬S b∧Q' b)→AA S w w'→R w' Q' e cs
def Gr {α:Type} (R:World→(Nat→Prop)→α→List Value→Prop) (w:World) (Q:Nat→Prop) (es:List α) (rows:List (List Value)):Prop:=rows.length=es.length∧∀(j:Nat) (e:α) (cs:List Value),es[j]? =some e→rows[j]? =some cs→R w Q e cs
section
variable {α:Type} {R:World→(Nat→Prop)→α→List Value→Prop} {w w':World} {Q Q':Nat→Prop} {es:List α} {rows:List (List Value)}
theorem Gr.nil (w:World) (Q:Nat→Prop):Gr R w Q [] []:=⟨rfl,fun j e cs h=>by simp at h⟩
theorem Gr.keep {S:Nat→Prop} (hR:KC R) (h:Gr R w Q es rows) (hq:∀b,Q b→b<w.heap.size∧¬S b∧Q' b) (hk:AA S w w'):Gr R w' Q' es rows:=⟨h.1,fun j e cs h1 h2=>hR w w' Q Q' S e cs (h.2 j e cs h1 h2) hq hk⟩
theorem Gr.snoc {e:α} {cs:List Value} (h:Gr R w Q es rows) (he:R w Q e cs):Gr R w Q (es++[e]) (rows++[cs]):=by
 refine⟨by rw[VR,VR,h.1];rfl,fun j e' cs' h1 h2=>?_⟩;by_cases hj:j<es.length
 ·rw[List.getElem?_append_left hj]at h1;rw[List.getElem?_append_left (by rw[h.1];exact hj)]at h2;exact h.2 j e' cs' h1 h2
 rw[List.getElem?_append_right (by omega)]at h1;rw[List.getElem?_append_right (by rw[h.1];omega),h.1]at h2;cases hz:j-es.length with
 |zero=>
  rw[hz]at h1 h2;obtain rfl:e=e':=by simpa using h1
  obtain rfl:cs=cs':=by simpa using h2
  exact he
 |succ z=>rw[hz]at h1;simp at h1
theorem Gr.step (hR:KC R) {B0 M sz:Nat} {s v':Value} {t:TypeId} {o:Obj} {e:α} {cs:List Value} {wr w3 w6:World} (hT:Gr R wr (J9 B0 M s wr.heap.size) es rows) (hM:B8 wr M t sz s rows) (hM2:M≤wr.heap.size) (g3:A4 wr w3) (he:R w3 (J9 B0 M s w3.heap.size) e cs)
  (k6:AA (fun i=>s.ownBlock=some i) (w3.alloc o) w6) (hr:v'.ownBlock=s.ownBlock∨v'.ownBlock=some (w3.alloc o).heap.size):Gr R w6 (J9 B0 M v' w6.heap.size) (es++[e]) (rows++[cs]):=by
 have s3:=g3.size;have s4:(w3.alloc o).heap.size=w3.heap.size+1:=by simp
 have s6:=k6.size;have ga:A4 w3 (w3.alloc o):=(VU w3).alloc o;refine Gr.snoc (hT.keep (S:=fun i=>s.ownBlock=some i) hR (fun b hb=>?_) (VV ((g3.trans ga).keeps (S:=fun i=>s.ownBlock=some i)) k6 fun i _ h=>h)) (hR _ _ _ _ (fun i=>s.ownBlock=some i) e cs he (fun b hb=>?_) (VV (ga.keeps (S:=fun i=>s.ownBlock=some i)) k6 fun i _ h=>h))
 ·obtain⟨h1,h2,h3⟩:=hb;refine⟨h2,h3,h1,by omega,fun h4=>?_⟩;rcases hr with hr|hr
  ·exact h3 (hr▸h4)
  rw[hr]at h4;injection h4 with h4;omega
 obtain⟨h1,h2,h3⟩:=hb;refine⟨h2,h3,h1,by omega,fun h4=>?_⟩;rcases hr with hr|hr
 ·exact h3 (hr▸h4)
 rw[hr]at h4;injection h4 with h4;omega
theorem Gr.read {base:Nat} {t:TypeId} {sz:Nat} {v:Value} (hM:B8 w base t sz v rows) (h:Gr R w Q es rows) (hq:∀b,v.ownBlock=some b→Q b):∃A c,v= .slice A es.length c∧es.length≤c∧(0<es.length→∃b o,A=some ⟨b,o,none⟩∧Q b∧∀j e,es[j]? =some e→∃cs,w.rangeAt b (o+j*sz) cs∧R w Q e cs):=by
 obtain⟨A,c,rfl,hc,hx⟩:=hM.own;refine⟨A,c,by rw[h.1],by rw[←h.1];exact hc,fun hn=>?_⟩;obtain⟨b,o,e,hb,hcell⟩:=hx (by rw[h.1];exact hn);refine⟨b,o,e,hq b hb,fun j e' hj=>?_⟩;have hjl:j<rows.length:=by rw[h.1];exact(VG.1 hj).1
 exact⟨rows[j],hcell j _ (VB hjl),h.2 j e' _ hj (VB hjl)⟩
end
end Go.Proofs.YthpflelgbadkcaaGreatDoor
namespace Go.Proofs.YthpflelgbadkcaaGreatDoor
open Go.RowKit Go.Shelf Pl
attribute [local go_sem] Oper.semAt_some
def KX (W W':World):Prop:=W.heap.size≤W'.heap.size∧∀z xs,AR W z 29 xs→AR W' z 29 xs
section
variable {F:Fence} {n:Nat} {P:Program} {ops:Array Oper} {rest:List Oper} {o:Oper} {a:Act} {w:World} {Q:Exit→Act→World→Prop}
end
end Go.Proofs.YthpflelgbadkcaaGreatDoor
namespace Go.Proofs.YthpflelgbadkcaaGreatDoor
section
variable {P:Program} {ops:Array Oper} {Q:Exit→Act→World→Prop} {l n:Nat}
end
end Go.Proofs.YthpflelgbadkcaaGreatDoor
namespace Go.Proofs.YthpflelgbadkcaaGreatDoor
open Go.RowKit Pl
inductive Sh where
 |mk (kind:Int) (kids:List Sh)
namespace Sh
def kind:Sh→Int| .mk k _=>k
def kids:Sh→List Sh| .mk _ ks=>ks
end Sh
mutual
def TL:Ex→Sh
 | .mk k _ _ _ _ _ _ _ _ _ ks=> .mk k (IY ks)
def IY:List Ex→List Sh
 |[]=>[]
 |e::es=>TL e::IY es
end
theorem GF:∀es:List Ex,(IY es).length=es.length
 |[]=>by unfold IY;rfl
 |e::es=>by unfold IY;rw[List.length_cons,List.length_cons,GF es]
def Uc (w:World) (x:Addr) (cs:List Value):Prop:=∀j u,cs[j]? =some u→w.cell? (x.add j)=some u
theorem JH (x:Addr) (n:Nat):(x.add n).block=x.block:=by unfold Addr.add;split<;>rfl
theorem SS {w:World} {b o:Nat} {cs:List Value} (h:w.rangeAt b o cs):Uc w ⟨b,o,none⟩ cs:=fun j u hu=>by rw[Addr.add_mid];exact h j u hu
def TH (k:Int) (c1 c2 c3 c4 c5 c6 c7 c8 c9 vk:Value):List Value:=[.int .i64 k,c1,c2,c3,c4,c5,c6,c7,c8,c9,vk]
mutual
def Lo (w:World) (Q:Nat→Prop):Sh→List Value→Prop
 | .mk k ks,cs=>∃c1 c2 c3 c4 c5 c6 c7 c8 c9 vk,cs=TH k c1 c2 c3 c4 c5 c6 c7 c8 c9 vk∧(∀v∈[c1,c2,c3,c4,c5,c6,c7,c8,c9],v.oneCell'=true)∧
   ∃A c,vk= .slice A ks.length c∧ks.length≤c∧(0<ks.length→∃x,A=some x∧Q x.block∧FP w Q x 0 ks)
def FP (w:World) (Q:Nat→Prop) (x:Addr) (i:Nat):List Sh→Prop
 |[]=>True
 |e::es=>(∃cs,Uc w (x.add (i*11)) cs∧Lo w Q e cs)∧FP w Q x (i+1) es
end
section
variable {w w':World} {Q Q':Nat→Prop}
theorem Uc.keep {S:Nat→Prop} {x:Addr} {cs:List Value} (h:Uc w x cs) (hb:x.block<w.heap.size) (hk:AA S w w') (hs: ¬S x.block):Uc w' x cs:=fun j u hu=>
 (World.cell?_of_block (a:=x.add j) (by rw[JH];exact hk.block _ hb hs)).trans (h j u hu)
mutual
theorem Lo.keep {S:Nat→Prop} (hq:∀b,Q b→b<w.heap.size∧¬S b∧Q' b) (hk:AA S w w'):∀(e:Sh) (cs:List Value),Lo w Q e cs→Lo w' Q' e cs
 | .mk k ks,cs,h=>by
  unfold Lo at h ⊢;obtain⟨c1,c2,c3,c4,c5,c6,c7,c8,c9,vk,h1,h2,A,c,h4,h5,h6⟩:=h;refine⟨c1,c2,c3,c4,c5,c6,c7,c8,c9,vk,h1,h2,A,c,h4,h5,fun hn=>?_⟩;obtain⟨x,e1,hb,hks⟩:=h6 hn;exact⟨x,e1,(hq _ hb).2.2,FP.keep hq hk x hb ks 0 hks⟩
theorem FP.keep {S:Nat→Prop} (hq:∀b,Q b→b<w.heap.size∧¬S b∧Q' b) (hk:AA S w w') (x:Addr) (hb:Q x.block):∀(es:List Sh) (i:Nat),FP w Q x i es→FP w' Q' x i es
 |[],_,_=>by unfold FP;trivial
 |e::es,i,h=>by
  unfold FP at h ⊢;obtain⟨⟨cs,h1,h2⟩,h3⟩:=h;exact⟨⟨cs,h1.keep (by rw[JH];exact(hq _ hb).1) hk (by rw[JH];exact(hq _ hb).2.1),Lo.keep hq hk e cs h2⟩,FP.keep hq hk x hb es (i+1) h3⟩
end
mutual
theorem AZ.sh:∀(e:Ex) (cs:List Value),AZ w Q e cs→Lo w Q (TL e) cs
 | .mk kind fn window offset k num den name ms bys kids,cs,h=>by
  unfold AZ at h;unfold TL Lo;obtain⟨vm,vb,vk,h1,h2,h3,A,c,h4,h5,h6⟩:=h;obtain⟨A1,n1,c1,rfl, -⟩:=h2.slice;obtain⟨A2,n2,c2,rfl, -⟩:=h3.slice;refine⟨_,_,_,_,_,_,_,_,_,vk,h1,fun v hv=>?_,A,c,by rw[GF];exact h4,by rw[GF];exact h5,fun hn=>?_⟩
  ·simp only[List.mem_cons,List.not_mem_nil,or_false]at hv;rcases hv with rfl|rfl|rfl|rfl|rfl|rfl|rfl|rfl|rfl<;>rfl
  rw[GF]at hn;obtain⟨b,o,e1,hb,hks⟩:=h6 hn;exact⟨⟨b,o,none⟩,e1,hb,Bc.sh b o kids 0 (by rw[Nat.zero_mul,Nat.add_zero];exact hks)⟩
theorem Bc.sh (b o:Nat):∀(es:List Ex) (i:Nat),Bc w Q b (o+i*11) es→FP w Q ⟨b,o,none⟩ i (IY es)
 |[],_,_=>by unfold IY FP;trivial
 |e::es,i,h=>by
  unfold Bc at h;unfold IY FP;obtain⟨⟨cs,h1,h2⟩,h3⟩:=h;refine⟨⟨cs,?_,AZ.sh e cs h2⟩,Bc.sh b o es (i+1) ?_⟩
  ·rw[Addr.add_mid];exact SS h1
  rwa[show o+(i+1)*11=o+i*11+11 by omega]
end
end
def cutS:Nat→Sh→Sh
 |0,e=> .mk e.kind []
 |d+1,e=> .mk e.kind ((e.kids.take 3).map (cutS d))
section
variable {P:Program} {md:Region.Mode} {ops:Array Oper} {Q:Exit→Act→World→Prop} {Gs:List (Nat×(World→Prop))}
end
section
variable {w w':World} {Q Q':Nat→Prop} {es:List Sh} {rows:List (List Value)}
end
end Go.Proofs.YthpflelgbadkcaaGreatDoor
