/- parser.Equal: true just where two trees are equal. -/
import Derived.Test.YtcimmbhdcebehaaGreatDoorRewriteNumbersP01
import Derived.Test.YtcimmbhdcebehaaGreatDoorRewriteNumbersP22
import Derived.Test.YtcimmbhdcebehaaGreatDoorRewriteNumbersP25
set_option maxRecDepth 100000
set_option maxHeartbeats 12800000
set_option linter.unusedVariables false
set_option linter.unusedSimpArgs false
namespace Go.Proofs.YtcimmbhdcebehaaGreatDoor
open Go.RowKit Pl
theorem peq_step (e1 e2:Ex) (hIH:∀a∈e1.kids,∀b∈e2.kids,∀(w:World) (cs1 cs2:List Value),RdE w w.heap.size a cs1→RdE w w.heap.size b cs2→Calls Tryz.prog 9 #[.agg cs1.toArray,.agg cs2.toArray] w fun e' w'=>e'= .returned (.bool (eqE a b))∧Grew w w')
  (ht1:e1.ms.length≤1000000∧e1.bys.length≤1000000∧e1.kids.length≤1000000) (ht2:e2.ms.length≤1000000∧e2.bys.length≤1000000∧e2.kids.length≤1000000) (w:World) (cs1 cs2:List Value) (hr1:RdE w w.heap.size e1 cs1) (hr2:RdE w w.heap.size e2 cs2):
  Calls Tryz.prog 9 #[.agg cs1.toArray,.agg cs2.toArray] w fun e' w'=>e'= .returned (.bool (eqE e1 e2))∧Grew w w':=by
 obtain⟨va1,va2,va3,rfl,hm1,hy1,hT1⟩:=hr1.open_;obtain⟨vb1,vb2,vb3,rfl,hm2,hy2,hT2⟩:=hr2.open_;obtain⟨r7,hr7,hr7'⟩:∃r:Bool,r=decide (e1.ms=e2.ms)∧(r=true↔e1.ms=e2.ms):=⟨_,rfl,decide_eq_true_iff⟩;obtain⟨r8,hr8,hr8'⟩:∃r:Bool,r=decide (e1.bys=e2.bys)∧(r=true↔e1.bys=e2.bys):=⟨_,rfl,decide_eq_true_iff⟩;have HM:=Lib.hid (show ∀w',Grew w w'→Calls Tryz.prog 29 #[va1,vb1] w' (fun e w''=>e= .returned (.bool r7)∧Grew w' w'')from fun w' g=>by rw[hr7];exact sEqM_any va1 vb1 e1.ms e2.ms w' (hm1.grew g) (hm2.grew g) ht1.1 ht2.1);have HY:=Lib.hid (show ∀w',Grew w w'→Calls Tryz.prog 30 #[va2,vb2] w' (fun e w''=>e= .returned (.bool r8)∧Grew w' w'')from fun w' g=>by rw[hr8];exact sEqS_any0 va2 vb2 e1.bys e2.bys w' (hy1.grew g) (hy2.grew g) ht1.2.1 ht2.2.1);have HKs:=Lib.hid (fun w' (g:Grew w w')=>eqF_any e1.kids e2.kids hIH ht1.2.2 ht2.2.2 va3 vb3 w' (hT1.grew g) (hT2.grew g));obtain⟨Am,Nm,Km,rfl⟩:∃A n c,va1= .slice A n c:=by obtain⟨A,c,h, -⟩:=hm1;exact⟨A,_,c,h⟩
 obtain⟨Ab,Nb,Kb,rfl⟩:∃A n c,va2= .slice A n c:=by obtain⟨A,c,h, -⟩:=hy1;exact⟨A,_,c,h⟩
 obtain⟨Ak,Nk,Kk,rfl, -⟩:=hT1.slice;obtain⟨Bm,Pm,Lm,rfl⟩:∃A n c,vb1= .slice A n c:=by obtain⟨A,c,h, -⟩:=hm2;exact⟨A,_,c,h⟩
 obtain⟨Bb,Pb,Lb,rfl⟩:∃A n c,vb2= .slice A n c:=by obtain⟨A,c,h, -⟩:=hy2;exact⟨A,_,c,h⟩
 obtain⟨Bk,Pk,Lk,rfl, -⟩:=hT2.slice;clear hr1 hr2 hm1 hy1 hT1 hm2 hy2 hT2 hIH ht1 ht2 hr7 hr8;obtain⟨k1,f1,d1,o1,q1,n1,m1,nm1,ms1,by1,ks1⟩:=e1;obtain⟨k2,f2,d2,o2,q2,n2,m2,nm2,ms2,by2,ks2⟩:=e2;simp only[Ex.kids]at HKs;replace hr7':r7=true↔ms1=ms2:=hr7';replace hr8':r8=true↔by1=by2:=hr8';by_cases h0:k1=k2
 ·have t0:(k1==k2)=true:=by rw[beq_iff_eq];exact h0
  by_cases h1:f1=f2
  ·have t1:(f1==f2)=true:=by rw[beq_iff_eq];exact h1
   by_cases h2:d1=d2
   ·have t2:(d1==d2)=true:=by rw[beq_iff_eq];exact h2
    by_cases h3:o1=o2
    ·have t3:(o1==o2)=true:=by rw[beq_iff_eq];exact h3
     by_cases h4:q1=q2
     ·have t4:(q1==q2)=true:=by rw[beq_iff_eq];exact h4
      by_cases h5:n1=n2∧m1=m2
      ·have t5:∀w,(binOp .eql 23 (.agg (fracL n1 m1).toArray) (.agg (fracL n2 m2).toArray)).run Tryz.prog w= .ok (.bool true) w:=fun w=>fracEq_run n1 m1 n2 m2 true (by simpa using h5) w
       by_cases h6:nm1=nm2
       ·have t6:(nm1.toList==nm2.toList)=true:=by rw[ba_beq];simpa using h6
        by_cases h7:ms1=ms2
        ·obtain rfl:r7=true:=hr7'.2 h7;by_cases h8:by1=by2
         ·obtain rfl:r8=true:=hr8'.2 h8;obtain⟨r,hr⟩:∃r,eqKs ks1 ks2=r:=⟨_,rfl⟩;rw[hr]at HKs;have HF:=Lib.hid (show eqE (.mk k1 f1 d1 o1 q1 n1 m1 nm1 ms1 by1 ks1) (.mk k2 f2 d2 o2 q2 n2 m2 nm2 ms2 by2 ks2)=r from by rw[eqE_def];simp only[Ex.kind,Ex.fn,Ex.window,Ex.offset,Ex.k,Ex.num,Ex.den,Ex.name,Ex.ms,Ex.bys,Ex.kids,h0,h1,h2,h3,h4,h5,h6,h7,h8,hr];simp);clear hr h0 h1 h2 h3 h4 h5 h6 h7 h8 hr7' hr8';go_enter Tryz.func9,Tryz.ntmps9;go_upto_region 1 with(first|((with_reducible refine at_box 34 (.tmp 0) rfl ?_);refine box_step 34 (.tmp 0) (cells11 (.mk k1 f1 d1 o1 q1 n1 m1 nm1 ms1 by1 ks1) (.slice Am Nm Km) (.slice Ab Nb Kb) (.slice Ak Nk Kk)) rfl rfl (by kernel_rfl) ?_;intro w1 hb1 g1 s1;have HB1:=Lib.hid hb1;have HG1:=Lib.hid g1;have HS1:=Lib.hid s1;clear hb1 g1 s1;simp only[Act.put,List.setIfInBounds_toArray,List.set_cons_zero,List.set_cons_succ])|((with_reducible refine at_box 34 (.tmp 1) rfl ?_);refine box_step 34 (.tmp 1) (cells11 (.mk k2 f2 d2 o2 q2 n2 m2 nm2 ms2 by2 ks2) (.slice Bm Pm Lm) (.slice Bb Pb Lb) (.slice Bk Pk Lk)) rfl rfl (by kernel_rfl) ?_;intro w2 hb2 g2 s2;have HB2:=Lib.hid (And.intro (HB1.out.grew g2) hb2);have HG2:=Lib.hid (HG1.out.trans g2);clear hb2 g2 s2;simp only[Act.put,List.setIfInBounds_toArray,List.set_cons_zero,List.set_cons_succ]));refine region_seqG [.pointer (some ⟨w.heap.size,0,none⟩),.int .i64 k1,.pointer (some ⟨w1.heap.size,0,none⟩),.int .i64 k2,.bool true,.bool true,.pointer (some ⟨w.heap.size,1,none⟩),.int .i64 f1,.pointer (some ⟨w1.heap.size,1,none⟩),.int .i64 f2,.bool true,.bool true,.bool true,.pointer (some ⟨w.heap.size,2,none⟩),.int .i64 d1,.pointer (some ⟨w1.heap.size,2,none⟩),.int .i64 d2,.bool true,.bool true,.bool true,.pointer (some ⟨w.heap.size,3,none⟩),.int .i64 o1,.pointer (some ⟨w1.heap.size,3,none⟩),.int .i64 o2,.bool true,.bool true,.bool true,.pointer (some ⟨w.heap.size,4,none⟩),.int .i64 q1,.pointer (some ⟨w1.heap.size,4,none⟩),.int .i64 q2,.bool true,.bool true,.bool true,.pointer (some ⟨w.heap.size,5,none⟩),.agg (fracL n1 m1).toArray,.pointer (some ⟨w1.heap.size,5,none⟩),.agg (fracL n2 m2).toArray,.bool true,.bool true,.bool true,.pointer (some ⟨w.heap.size,7,none⟩),.string nm1,.pointer (some ⟨w1.heap.size,7,none⟩),.string nm2,.bool true,.bool true,.bool true,.pointer (some ⟨w.heap.size,8,none⟩),.slice Am Nm Km,.pointer (some ⟨w1.heap.size,8,none⟩),.slice Bm Pm Lm,.bool true,.bool true,.bool true,.pointer (some ⟨w.heap.size,9,none⟩),.slice Ab Nb Kb,.pointer (some ⟨w1.heap.size,9,none⟩),.slice Bb Pb Lb,.bool true,.bool true,.bool true,.pointer (some ⟨w.heap.size,10,none⟩),.slice Ak Nk Kk,.pointer (some ⟨w1.heap.size,10,none⟩),.slice Bk Pk Lk,.bool r,.bool r,.bool r] _ (by kernel_rfl) (by kernel_rfl) rfl ?sH ?sT
          case sH=>
           simp only[List.toList_toArray,List.append_eq,List.cons_append,List.nil_append,putAll,Act.put,List.setIfInBounds_toArray,List.set_cons_zero,List.set_cons_succ];refine headG_run (by kernel_rfl) (fun w' hg=>?_) ?_
           ·go_simp;exact Grew.refl _
           refine headG_run (by kernel_rfl) (fun w' hg=>?_) ?_
           ·have hc:w'.cell? ⟨w.heap.size,0,none⟩=some (.int .i64 k1):=(HB2.out.1.grew hg).cell 0;exact ld_one 3 (.tmp 5) (fun w v h=>by simp[go_sem,h]) rfl (by kernel_rfl) hc ⟨by kernel_rfl,Grew.refl _⟩
           refine headG_run (by kernel_rfl) (fun w' hg=>?_) ?_
           ·go_simp;exact Grew.refl _
           refine headG_run (by kernel_rfl) (fun w' hg=>?_) ?_
           ·have hc:w'.cell? ⟨w1.heap.size,0,none⟩=some (.int .i64 k2):=(HB2.out.2.grew hg).cell 0;exact ld_one 3 (.tmp 7) (fun w v h=>by simp[go_sem,h]) rfl (by kernel_rfl) hc ⟨by kernel_rfl,Grew.refl _⟩
           refine headG_run (by kernel_rfl) (fun w' hg=>?_) ?_
           ·go_simp;exact Grew.refl _
           refine headG_run (by kernel_rfl) (fun w' hg=>?_) ?_
           ·go_simp;exact Grew.refl _
           refine headG_run (by kernel_rfl) (fun w' hg=>?_) ?_
           ·go_simp;exact Grew.refl _
           refine headG_run (by kernel_rfl) (fun w' hg=>?_) ?_
           ·have hc:w'.cell? ⟨w.heap.size,1,none⟩=some (.int .i64 f1):=(HB2.out.1.grew hg).cell 1;exact ld_one 3 (.tmp 11) (fun w v h=>by simp[go_sem,h]) rfl (by kernel_rfl) hc ⟨by kernel_rfl,Grew.refl _⟩
           refine headG_run (by kernel_rfl) (fun w' hg=>?_) ?_
           ·go_simp;exact Grew.refl _
           refine headG_run (by kernel_rfl) (fun w' hg=>?_) ?_
           ·have hc:w'.cell? ⟨w1.heap.size,1,none⟩=some (.int .i64 f2):=(HB2.out.2.grew hg).cell 1;exact ld_one 3 (.tmp 13) (fun w v h=>by simp[go_sem,h]) rfl (by kernel_rfl) hc ⟨by kernel_rfl,Grew.refl _⟩
           refine headG_run (by kernel_rfl) (fun w' hg=>?_) ?_
           ·go_simp;exact Grew.refl _
           refine headG_run (by kernel_rfl) (fun w' hg=>?_) ?_
           ·go_simp;exact Grew.refl _
           refine headG_run (by kernel_rfl) (fun w' hg=>?_) ?_
           ·go_simp;exact Grew.refl _
           refine headG_run (by kernel_rfl) (fun w' hg=>?_) ?_
           ·go_simp;exact Grew.refl _
           refine headG_run (by kernel_rfl) (fun w' hg=>?_) ?_
           ·have hc:w'.cell? ⟨w.heap.size,2,none⟩=some (.int .i64 d1):=(HB2.out.1.grew hg).cell 2;exact ld_one 3 (.tmp 18) (fun w v h=>by simp[go_sem,h]) rfl (by kernel_rfl) hc ⟨by kernel_rfl,Grew.refl _⟩
           refine headG_run (by kernel_rfl) (fun w' hg=>?_) ?_
           ·go_simp;exact Grew.refl _
           refine headG_run (by kernel_rfl) (fun w' hg=>?_) ?_
           ·have hc:w'.cell? ⟨w1.heap.size,2,none⟩=some (.int .i64 d2):=(HB2.out.2.grew hg).cell 2;exact ld_one 3 (.tmp 20) (fun w v h=>by simp[go_sem,h]) rfl (by kernel_rfl) hc ⟨by kernel_rfl,Grew.refl _⟩
           refine headG_run (by kernel_rfl) (fun w' hg=>?_) ?_
           ·go_simp;exact Grew.refl _
           refine headG_run (by kernel_rfl) (fun w' hg=>?_) ?_
           ·go_simp;exact Grew.refl _
           refine headG_run (by kernel_rfl) (fun w' hg=>?_) ?_
           ·go_simp;exact Grew.refl _
           refine headG_run (by kernel_rfl) (fun w' hg=>?_) ?_
           ·go_simp;exact Grew.refl _
           refine headG_run (by kernel_rfl) (fun w' hg=>?_) ?_
           ·have hc:w'.cell? ⟨w.heap.size,3,none⟩=some (.int .i64 o1):=(HB2.out.1.grew hg).cell 3;exact ld_one 3 (.tmp 25) (fun w v h=>by simp[go_sem,h]) rfl (by kernel_rfl) hc ⟨by kernel_rfl,Grew.refl _⟩
           refine headG_run (by kernel_rfl) (fun w' hg=>?_) ?_
           ·go_simp;exact Grew.refl _
           refine headG_run (by kernel_rfl) (fun w' hg=>?_) ?_
           ·have hc:w'.cell? ⟨w1.heap.size,3,none⟩=some (.int .i64 o2):=(HB2.out.2.grew hg).cell 3;exact ld_one 3 (.tmp 27) (fun w v h=>by simp[go_sem,h]) rfl (by kernel_rfl) hc ⟨by kernel_rfl,Grew.refl _⟩
           refine headG_run (by kernel_rfl) (fun w' hg=>?_) ?_
           ·go_simp;exact Grew.refl _
           refine headG_run (by kernel_rfl) (fun w' hg=>?_) ?_
           ·go_simp;exact Grew.refl _
           refine headG_run (by kernel_rfl) (fun w' hg=>?_) ?_
           ·go_simp;exact Grew.refl _
           refine headG_run (by kernel_rfl) (fun w' hg=>?_) ?_
           ·go_simp;exact Grew.refl _
           refine headG_run (by kernel_rfl) (fun w' hg=>?_) ?_
           ·have hc:w'.cell? ⟨w.heap.size,4,none⟩=some (.int .i64 q1):=(HB2.out.1.grew hg).cell 4;exact ld_one 3 (.tmp 32) (fun w v h=>by simp[go_sem,h]) rfl (by kernel_rfl) hc ⟨by kernel_rfl,Grew.refl _⟩
           refine headG_run (by kernel_rfl) (fun w' hg=>?_) ?_
           ·go_simp;exact Grew.refl _
           refine headG_run (by kernel_rfl) (fun w' hg=>?_) ?_
           ·have hc:w'.cell? ⟨w1.heap.size,4,none⟩=some (.int .i64 q2):=(HB2.out.2.grew hg).cell 4;exact ld_one 3 (.tmp 34) (fun w v h=>by simp[go_sem,h]) rfl (by kernel_rfl) hc ⟨by kernel_rfl,Grew.refl _⟩
           refine headG_run (by kernel_rfl) (fun w' hg=>?_) ?_
           ·go_simp;exact Grew.refl _
           refine headG_run (by kernel_rfl) (fun w' hg=>?_) ?_
           ·go_simp;exact Grew.refl _
           refine headG_run (by kernel_rfl) (fun w' hg=>?_) ?_
           ·go_simp;exact Grew.refl _
           refine headG_run (by kernel_rfl) (fun w' hg=>?_) ?_
           ·go_simp;exact Grew.refl _
           refine headG_run (by kernel_rfl) (fun w' hg=>?_) ?_
           ·refine wp_load_mid 23 (.tmp 39) rfl (w.heap.size) 5 rfl (fracL n1 m1) _ ((HB2.out.1.grew hg).rangeN 5 _ rfl) Tryz.underlying23 rfl infoF ?_;exact⟨rfl,Grew.refl _⟩
           refine headG_run (by kernel_rfl) (fun w' hg=>?_) ?_
           ·go_simp;exact Grew.refl _
           refine headG_run (by kernel_rfl) (fun w' hg=>?_) ?_
           ·refine wp_load_mid 23 (.tmp 41) rfl (w1.heap.size) 5 rfl (fracL n2 m2) _ ((HB2.out.2.grew hg).rangeN 5 _ rfl) Tryz.underlying23 rfl infoF ?_;exact⟨rfl,Grew.refl _⟩
           refine headG_run (by kernel_rfl) (fun w' hg=>?_) ?_
           ·have hne:=t5;go_simp;exact Grew.refl _
           refine headG_run (by kernel_rfl) (fun w' hg=>?_) ?_
           ·go_simp;exact Grew.refl _
           refine headG_run (by kernel_rfl) (fun w' hg=>?_) ?_
           ·go_simp;exact Grew.refl _
           refine headG_run (by kernel_rfl) (fun w' hg=>?_) ?_
           ·go_simp;exact Grew.refl _
           refine headG_run (by kernel_rfl) (fun w' hg=>?_) ?_
           ·have hc:w'.cell? ⟨w.heap.size,7,none⟩=some (.string nm1):=(HB2.out.1.grew hg).cell 7;exact ld_one 9 (.tmp 46) (fun w v h=>by simp[go_sem,h]) rfl (by kernel_rfl) hc ⟨by kernel_rfl,Grew.refl _⟩
           refine headG_run (by kernel_rfl) (fun w' hg=>?_) ?_
           ·go_simp;exact Grew.refl _
           refine headG_run (by kernel_rfl) (fun w' hg=>?_) ?_
           ·have hc:w'.cell? ⟨w1.heap.size,7,none⟩=some (.string nm2):=(HB2.out.2.grew hg).cell 7;exact ld_one 9 (.tmp 48) (fun w v h=>by simp[go_sem,h]) rfl (by kernel_rfl) hc ⟨by kernel_rfl,Grew.refl _⟩
           refine headG_run (by kernel_rfl) (fun w' hg=>?_) ?_
           ·have hne:=t6;go_simp;exact Grew.refl _
           refine headG_run (by kernel_rfl) (fun w' hg=>?_) ?_
           ·go_simp;exact Grew.refl _
           refine headG_run (by kernel_rfl) (fun w' hg=>?_) ?_
           ·go_simp;exact Grew.refl _
           refine headG_run (by kernel_rfl) (fun w' hg=>?_) ?_
           ·go_simp;exact Grew.refl _
           refine headG_run (by kernel_rfl) (fun w' hg=>?_) ?_
           ·have hc:w'.cell? ⟨w.heap.size,8,none⟩=some (.slice Am Nm Km):=(HB2.out.1.grew hg).cell 8;exact ld_one 30 (.tmp 53) (fun w v h=>by simp[go_sem,h]) rfl (by kernel_rfl) hc ⟨by kernel_rfl,Grew.refl _⟩
           refine headG_run (by kernel_rfl) (fun w' hg=>?_) ?_
           ·go_simp;exact Grew.refl _
           refine headG_run (by kernel_rfl) (fun w' hg=>?_) ?_
           ·have hc:w'.cell? ⟨w1.heap.size,8,none⟩=some (.slice Bm Pm Lm):=(HB2.out.2.grew hg).cell 8;exact ld_one 30 (.tmp 55) (fun w v h=>by simp[go_sem,h]) rfl (by kernel_rfl) hc ⟨by kernel_rfl,Grew.refl _⟩
           refine headG_run (by kernel_rfl) (fun w' hg=>?_) ?_
           ·go_simp;(with_reducible refine(HM.out _ (HG2.out.trans hg)).mono ?_);rintro e wq ⟨rfl,kq⟩;exact⟨rfl,kq⟩
           refine headG_run (by kernel_rfl) (fun w' hg=>?_) ?_
           ·go_simp;exact Grew.refl _
           refine headG_run (by kernel_rfl) (fun w' hg=>?_) ?_
           ·go_simp;exact Grew.refl _
           refine headG_run (by kernel_rfl) (fun w' hg=>?_) ?_
           ·go_simp;exact Grew.refl _
           refine headG_run (by kernel_rfl) (fun w' hg=>?_) ?_
           ·have hc:w'.cell? ⟨w.heap.size,9,none⟩=some (.slice Ab Nb Kb):=(HB2.out.1.grew hg).cell 9;exact ld_one 31 (.tmp 60) (fun w v h=>by simp[go_sem,h]) rfl (by kernel_rfl) hc ⟨by kernel_rfl,Grew.refl _⟩
           refine headG_run (by kernel_rfl) (fun w' hg=>?_) ?_
           ·go_simp;exact Grew.refl _
           refine headG_run (by kernel_rfl) (fun w' hg=>?_) ?_
           ·have hc:w'.cell? ⟨w1.heap.size,9,none⟩=some (.slice Bb Pb Lb):=(HB2.out.2.grew hg).cell 9;exact ld_one 31 (.tmp 62) (fun w v h=>by simp[go_sem,h]) rfl (by kernel_rfl) hc ⟨by kernel_rfl,Grew.refl _⟩
           refine headG_run (by kernel_rfl) (fun w' hg=>?_) ?_
           ·go_simp;(with_reducible refine(HY.out _ (HG2.out.trans hg)).mono ?_);rintro e wq ⟨rfl,kq⟩;exact⟨rfl,kq⟩
           refine headG_run (by kernel_rfl) (fun w' hg=>?_) ?_
           ·go_simp;exact Grew.refl _
           refine headG_run (by kernel_rfl) (fun w' hg=>?_) ?_
           ·go_simp;exact Grew.refl _
           refine headG_run (by kernel_rfl) (fun w' hg=>?_) ?_
           ·go_simp;exact Grew.refl _
           refine headG_run (by kernel_rfl) (fun w' hg=>?_) ?_
           ·have hc:w'.cell? ⟨w.heap.size,10,none⟩=some (.slice Ak Nk Kk):=(HB2.out.1.grew hg).cell 10;exact ld_one 32 (.tmp 67) (fun w v h=>by simp[go_sem,h]) rfl (by kernel_rfl) hc ⟨by kernel_rfl,Grew.refl _⟩
           refine headG_run (by kernel_rfl) (fun w' hg=>?_) ?_
           ·go_simp;exact Grew.refl _
           refine headG_run (by kernel_rfl) (fun w' hg=>?_) ?_
           ·have hc:w'.cell? ⟨w1.heap.size,10,none⟩=some (.slice Bk Pk Lk):=(HB2.out.2.grew hg).cell 10;exact ld_one 32 (.tmp 69) (fun w v h=>by simp[go_sem,h]) rfl (by kernel_rfl) hc ⟨by kernel_rfl,Grew.refl _⟩
           refine headG_run (by kernel_rfl) (fun w' hg=>?_) ?_
           ·go_simp;(with_reducible refine(HKs.out _ (HG2.out.trans hg)).mono ?_);rintro e wq ⟨rfl,kq⟩;exact⟨rfl,kq⟩
           refine headG_run (by kernel_rfl) (fun w' hg=>?_) ?_
           ·go_simp;exact Grew.refl _
           refine headG_run (by kernel_rfl) (fun w' hg=>?_) ?_
           ·go_simp;exact Grew.refl _
           exact headG_nil
          case sT=>
           intro w9 hg9;simp only[List.toList_toArray,List.append_eq,List.cons_append,List.nil_append,putAll,Act.put,List.setIfInBounds_toArray,List.set_cons_zero,List.set_cons_succ];go_wp2_with fail;go_ret;exact⟨by rw[HF.out];rfl,HG2.out.trans hg9⟩
         obtain rfl:r8=false:=by cases r8;rfl;exact absurd (hr8'.1 rfl) h8
         have HF:=Lib.hid (show eqE (.mk k1 f1 d1 o1 q1 n1 m1 nm1 ms1 by1 ks1) (.mk k2 f2 d2 o2 q2 n2 m2 nm2 ms2 by2 ks2)=false from by rw[eqE_def,decide_eq_false (fun h=>h8 h.2.2.2.2.2.2.2.2.2)];rfl);clear h0 h1 h2 h3 h4 h5 h6 h7 h8 hr7' hr8';go_enter Tryz.func9,Tryz.ntmps9;go_upto_region 1 with(first|((with_reducible refine at_box 34 (.tmp 0) rfl ?_);refine box_step 34 (.tmp 0) (cells11 (.mk k1 f1 d1 o1 q1 n1 m1 nm1 ms1 by1 ks1) (.slice Am Nm Km) (.slice Ab Nb Kb) (.slice Ak Nk Kk)) rfl rfl (by kernel_rfl) ?_;intro w1 hb1 g1 s1;have HB1:=Lib.hid hb1;have HG1:=Lib.hid g1;have HS1:=Lib.hid s1;clear hb1 g1 s1;simp only[Act.put,List.setIfInBounds_toArray,List.set_cons_zero,List.set_cons_succ])|((with_reducible refine at_box 34 (.tmp 1) rfl ?_);refine box_step 34 (.tmp 1) (cells11 (.mk k2 f2 d2 o2 q2 n2 m2 nm2 ms2 by2 ks2) (.slice Bm Pm Lm) (.slice Bb Pb Lb) (.slice Bk Pk Lk)) rfl rfl (by kernel_rfl) ?_;intro w2 hb2 g2 s2;have HB2:=Lib.hid (And.intro (HB1.out.grew g2) hb2);have HG2:=Lib.hid (HG1.out.trans g2);clear hb2 g2 s2;simp only[Act.put,List.setIfInBounds_toArray,List.set_cons_zero,List.set_cons_succ]));refine region_seqG [.pointer (some ⟨w.heap.size,0,none⟩),.int .i64 k1,.pointer (some ⟨w1.heap.size,0,none⟩),.int .i64 k2,.bool true,.bool true,.pointer (some ⟨w.heap.size,1,none⟩),.int .i64 f1,.pointer (some ⟨w1.heap.size,1,none⟩),.int .i64 f2,.bool true,.bool true,.bool true,.pointer (some ⟨w.heap.size,2,none⟩),.int .i64 d1,.pointer (some ⟨w1.heap.size,2,none⟩),.int .i64 d2,.bool true,.bool true,.bool true,.pointer (some ⟨w.heap.size,3,none⟩),.int .i64 o1,.pointer (some ⟨w1.heap.size,3,none⟩),.int .i64 o2,.bool true,.bool true,.bool true,.pointer (some ⟨w.heap.size,4,none⟩),.int .i64 q1,.pointer (some ⟨w1.heap.size,4,none⟩),.int .i64 q2,.bool true,.bool true,.bool true,.pointer (some ⟨w.heap.size,5,none⟩),.agg (fracL n1 m1).toArray,.pointer (some ⟨w1.heap.size,5,none⟩),.agg (fracL n2 m2).toArray,.bool true,.bool true,.bool true,.pointer (some ⟨w.heap.size,7,none⟩),.string nm1,.pointer (some ⟨w1.heap.size,7,none⟩),.string nm2,.bool true,.bool true,.bool true,.pointer (some ⟨w.heap.size,8,none⟩),.slice Am Nm Km,.pointer (some ⟨w1.heap.size,8,none⟩),.slice Bm Pm Lm,.bool true,.bool true,.bool true,.pointer (some ⟨w.heap.size,9,none⟩),.slice Ab Nb Kb,.pointer (some ⟨w1.heap.size,9,none⟩),.slice Bb Pb Lb,.bool false,.bool false,.bool false,undef,undef,undef,undef,undef,.bool false,.bool false] _ (by kernel_rfl) (by kernel_rfl) rfl ?sH ?sT
         case sH=>
          simp only[List.toList_toArray,List.append_eq,List.cons_append,List.nil_append,putAll,Act.put,List.setIfInBounds_toArray,List.set_cons_zero,List.set_cons_succ];refine headG_run (by kernel_rfl) (fun w' hg=>?_) ?_
          ·go_simp;exact Grew.refl _
          refine headG_run (by kernel_rfl) (fun w' hg=>?_) ?_
          ·have hc:w'.cell? ⟨w.heap.size,0,none⟩=some (.int .i64 k1):=(HB2.out.1.grew hg).cell 0;exact ld_one 3 (.tmp 5) (fun w v h=>by simp[go_sem,h]) rfl (by kernel_rfl) hc ⟨by kernel_rfl,Grew.refl _⟩
          refine headG_run (by kernel_rfl) (fun w' hg=>?_) ?_
          ·go_simp;exact Grew.refl _
          refine headG_run (by kernel_rfl) (fun w' hg=>?_) ?_
          ·have hc:w'.cell? ⟨w1.heap.size,0,none⟩=some (.int .i64 k2):=(HB2.out.2.grew hg).cell 0;exact ld_one 3 (.tmp 7) (fun w v h=>by simp[go_sem,h]) rfl (by kernel_rfl) hc ⟨by kernel_rfl,Grew.refl _⟩
          refine headG_run (by kernel_rfl) (fun w' hg=>?_) ?_
          ·go_simp;exact Grew.refl _
          refine headG_run (by kernel_rfl) (fun w' hg=>?_) ?_
          ·go_simp;exact Grew.refl _
          refine headG_run (by kernel_rfl) (fun w' hg=>?_) ?_
          ·go_simp;exact Grew.refl _
          refine headG_run (by kernel_rfl) (fun w' hg=>?_) ?_
          ·have hc:w'.cell? ⟨w.heap.size,1,none⟩=some (.int .i64 f1):=(HB2.out.1.grew hg).cell 1;exact ld_one 3 (.tmp 11) (fun w v h=>by simp[go_sem,h]) rfl (by kernel_rfl) hc ⟨by kernel_rfl,Grew.refl _⟩
          refine headG_run (by kernel_rfl) (fun w' hg=>?_) ?_
          ·go_simp;exact Grew.refl _
          refine headG_run (by kernel_rfl) (fun w' hg=>?_) ?_
          ·have hc:w'.cell? ⟨w1.heap.size,1,none⟩=some (.int .i64 f2):=(HB2.out.2.grew hg).cell 1;exact ld_one 3 (.tmp 13) (fun w v h=>by simp[go_sem,h]) rfl (by kernel_rfl) hc ⟨by kernel_rfl,Grew.refl _⟩
          refine headG_run (by kernel_rfl) (fun w' hg=>?_) ?_
          ·go_simp;exact Grew.refl _
          refine headG_run (by kernel_rfl) (fun w' hg=>?_) ?_
          ·go_simp;exact Grew.refl _
          refine headG_run (by kernel_rfl) (fun w' hg=>?_) ?_
          ·go_simp;exact Grew.refl _
          refine headG_run (by kernel_rfl) (fun w' hg=>?_) ?_
          ·go_simp;exact Grew.refl _
          refine headG_run (by kernel_rfl) (fun w' hg=>?_) ?_
          ·have hc:w'.cell? ⟨w.heap.size,2,none⟩=some (.int .i64 d1):=(HB2.out.1.grew hg).cell 2;exact ld_one 3 (.tmp 18) (fun w v h=>by simp[go_sem,h]) rfl (by kernel_rfl) hc ⟨by kernel_rfl,Grew.refl _⟩
          refine headG_run (by kernel_rfl) (fun w' hg=>?_) ?_
          ·go_simp;exact Grew.refl _
          refine headG_run (by kernel_rfl) (fun w' hg=>?_) ?_
          ·have hc:w'.cell? ⟨w1.heap.size,2,none⟩=some (.int .i64 d2):=(HB2.out.2.grew hg).cell 2;exact ld_one 3 (.tmp 20) (fun w v h=>by simp[go_sem,h]) rfl (by kernel_rfl) hc ⟨by kernel_rfl,Grew.refl _⟩
          refine headG_run (by kernel_rfl) (fun w' hg=>?_) ?_
          ·go_simp;exact Grew.refl _
          refine headG_run (by kernel_rfl) (fun w' hg=>?_) ?_
          ·go_simp;exact Grew.refl _
          refine headG_run (by kernel_rfl) (fun w' hg=>?_) ?_
          ·go_simp;exact Grew.refl _
          refine headG_run (by kernel_rfl) (fun w' hg=>?_) ?_
          ·go_simp;exact Grew.refl _
          refine headG_run (by kernel_rfl) (fun w' hg=>?_) ?_
          ·have hc:w'.cell? ⟨w.heap.size,3,none⟩=some (.int .i64 o1):=(HB2.out.1.grew hg).cell 3;exact ld_one 3 (.tmp 25) (fun w v h=>by simp[go_sem,h]) rfl (by kernel_rfl) hc ⟨by kernel_rfl,Grew.refl _⟩
          refine headG_run (by kernel_rfl) (fun w' hg=>?_) ?_
          ·go_simp;exact Grew.refl _
          refine headG_run (by kernel_rfl) (fun w' hg=>?_) ?_
          ·have hc:w'.cell? ⟨w1.heap.size,3,none⟩=some (.int .i64 o2):=(HB2.out.2.grew hg).cell 3;exact ld_one 3 (.tmp 27) (fun w v h=>by simp[go_sem,h]) rfl (by kernel_rfl) hc ⟨by kernel_rfl,Grew.refl _⟩
          refine headG_run (by kernel_rfl) (fun w' hg=>?_) ?_
          ·go_simp;exact Grew.refl _
          refine headG_run (by kernel_rfl) (fun w' hg=>?_) ?_
          ·go_simp;exact Grew.refl _
          refine headG_run (by kernel_rfl) (fun w' hg=>?_) ?_
          ·go_simp;exact Grew.refl _
          refine headG_run (by kernel_rfl) (fun w' hg=>?_) ?_
          ·go_simp;exact Grew.refl _
          refine headG_run (by kernel_rfl) (fun w' hg=>?_) ?_
          ·have hc:w'.cell? ⟨w.heap.size,4,none⟩=some (.int .i64 q1):=(HB2.out.1.grew hg).cell 4;exact ld_one 3 (.tmp 32) (fun w v h=>by simp[go_sem,h]) rfl (by kernel_rfl) hc ⟨by kernel_rfl,Grew.refl _⟩
          refine headG_run (by kernel_rfl) (fun w' hg=>?_) ?_
          ·go_simp;exact Grew.refl _
          refine headG_run (by kernel_rfl) (fun w' hg=>?_) ?_
          ·have hc:w'.cell? ⟨w1.heap.size,4,none⟩=some (.int .i64 q2):=(HB2.out.2.grew hg).cell 4;exact ld_one 3 (.tmp 34) (fun w v h=>by simp[go_sem,h]) rfl (by kernel_rfl) hc ⟨by kernel_rfl,Grew.refl _⟩
          refine headG_run (by kernel_rfl) (fun w' hg=>?_) ?_
          ·go_simp;exact Grew.refl _
          refine headG_run (by kernel_rfl) (fun w' hg=>?_) ?_
          ·go_simp;exact Grew.refl _
          refine headG_run (by kernel_rfl) (fun w' hg=>?_) ?_
          ·go_simp;exact Grew.refl _
          refine headG_run (by kernel_rfl) (fun w' hg=>?_) ?_
          ·go_simp;exact Grew.refl _
          refine headG_run (by kernel_rfl) (fun w' hg=>?_) ?_
          ·refine wp_load_mid 23 (.tmp 39) rfl (w.heap.size) 5 rfl (fracL n1 m1) _ ((HB2.out.1.grew hg).rangeN 5 _ rfl) Tryz.underlying23 rfl infoF ?_;exact⟨rfl,Grew.refl _⟩
          refine headG_run (by kernel_rfl) (fun w' hg=>?_) ?_
          ·go_simp;exact Grew.refl _
          refine headG_run (by kernel_rfl) (fun w' hg=>?_) ?_
          ·refine wp_load_mid 23 (.tmp 41) rfl (w1.heap.size) 5 rfl (fracL n2 m2) _ ((HB2.out.2.grew hg).rangeN 5 _ rfl) Tryz.underlying23 rfl infoF ?_;exact⟨rfl,Grew.refl _⟩
          refine headG_run (by kernel_rfl) (fun w' hg=>?_) ?_
          ·have hne:=t5;go_simp;exact Grew.refl _
          refine headG_run (by kernel_rfl) (fun w' hg=>?_) ?_
          ·go_simp;exact Grew.refl _
          refine headG_run (by kernel_rfl) (fun w' hg=>?_) ?_
          ·go_simp;exact Grew.refl _
          refine headG_run (by kernel_rfl) (fun w' hg=>?_) ?_
          ·go_simp;exact Grew.refl _
          refine headG_run (by kernel_rfl) (fun w' hg=>?_) ?_
          ·have hc:w'.cell? ⟨w.heap.size,7,none⟩=some (.string nm1):=(HB2.out.1.grew hg).cell 7;exact ld_one 9 (.tmp 46) (fun w v h=>by simp[go_sem,h]) rfl (by kernel_rfl) hc ⟨by kernel_rfl,Grew.refl _⟩
          refine headG_run (by kernel_rfl) (fun w' hg=>?_) ?_
          ·go_simp;exact Grew.refl _
          refine headG_run (by kernel_rfl) (fun w' hg=>?_) ?_
          ·have hc:w'.cell? ⟨w1.heap.size,7,none⟩=some (.string nm2):=(HB2.out.2.grew hg).cell 7;exact ld_one 9 (.tmp 48) (fun w v h=>by simp[go_sem,h]) rfl (by kernel_rfl) hc ⟨by kernel_rfl,Grew.refl _⟩
          refine headG_run (by kernel_rfl) (fun w' hg=>?_) ?_
          ·have hne:=t6;go_simp;exact Grew.refl _
          refine headG_run (by kernel_rfl) (fun w' hg=>?_) ?_
          ·go_simp;exact Grew.refl _
          refine headG_run (by kernel_rfl) (fun w' hg=>?_) ?_
          ·go_simp;exact Grew.refl _
          refine headG_run (by kernel_rfl) (fun w' hg=>?_) ?_
          ·go_simp;exact Grew.refl _
          refine headG_run (by kernel_rfl) (fun w' hg=>?_) ?_
          ·have hc:w'.cell? ⟨w.heap.size,8,none⟩=some (.slice Am Nm Km):=(HB2.out.1.grew hg).cell 8;exact ld_one 30 (.tmp 53) (fun w v h=>by simp[go_sem,h]) rfl (by kernel_rfl) hc ⟨by kernel_rfl,Grew.refl _⟩
          refine headG_run (by kernel_rfl) (fun w' hg=>?_) ?_
          ·go_simp;exact Grew.refl _
          refine headG_run (by kernel_rfl) (fun w' hg=>?_) ?_
          ·have hc:w'.cell? ⟨w1.heap.size,8,none⟩=some (.slice Bm Pm Lm):=(HB2.out.2.grew hg).cell 8;exact ld_one 30 (.tmp 55) (fun w v h=>by simp[go_sem,h]) rfl (by kernel_rfl) hc ⟨by kernel_rfl,Grew.refl _⟩
          refine headG_run (by kernel_rfl) (fun w' hg=>?_) ?_
          ·go_simp;(with_reducible refine(HM.out _ (HG2.out.trans hg)).mono ?_);rintro e wq ⟨rfl,kq⟩;exact⟨rfl,kq⟩
          refine headG_run (by kernel_rfl) (fun w' hg=>?_) ?_
          ·go_simp;exact Grew.refl _
          refine headG_run (by kernel_rfl) (fun w' hg=>?_) ?_
          ·go_simp;exact Grew.refl _
          refine headG_run (by kernel_rfl) (fun w' hg=>?_) ?_
          ·go_simp;exact Grew.refl _
          refine headG_run (by kernel_rfl) (fun w' hg=>?_) ?_
          ·have hc:w'.cell? ⟨w.heap.size,9,none⟩=some (.slice Ab Nb Kb):=(HB2.out.1.grew hg).cell 9;exact ld_one 31 (.tmp 60) (fun w v h=>by simp[go_sem,h]) rfl (by kernel_rfl) hc ⟨by kernel_rfl,Grew.refl _⟩
          refine headG_run (by kernel_rfl) (fun w' hg=>?_) ?_
          ·go_simp;exact Grew.refl _
          refine headG_run (by kernel_rfl) (fun w' hg=>?_) ?_
          ·have hc:w'.cell? ⟨w1.heap.size,9,none⟩=some (.slice Bb Pb Lb):=(HB2.out.2.grew hg).cell 9;exact ld_one 31 (.tmp 62) (fun w v h=>by simp[go_sem,h]) rfl (by kernel_rfl) hc ⟨by kernel_rfl,Grew.refl _⟩
          refine headG_run (by kernel_rfl) (fun w' hg=>?_) ?_
          ·go_simp;(with_reducible refine(HY.out _ (HG2.out.trans hg)).mono ?_);rintro e wq ⟨rfl,kq⟩;exact⟨rfl,kq⟩
          refine headG_run (by kernel_rfl) (fun w' hg=>?_) ?_
          ·go_simp;exact Grew.refl _
          refine headG_run (by kernel_rfl) (fun w' hg=>?_) ?_
          ·go_simp;exact Grew.refl _
          refine headG_skip (by kernel_rfl) (by kernel_rfl) ?_;refine headG_skip (by kernel_rfl) (by kernel_rfl) ?_;refine headG_skip (by kernel_rfl) (by kernel_rfl) ?_;refine headG_skip (by kernel_rfl) (by kernel_rfl) ?_;refine headG_skip (by kernel_rfl) (by kernel_rfl) ?_;refine headG_run (by kernel_rfl) (fun w' hg=>?_) ?_
          ·go_simp;exact Grew.refl _
          refine headG_run (by kernel_rfl) (fun w' hg=>?_) ?_
          ·go_simp;exact Grew.refl _
          exact headG_nil
         case sT=>
          intro w9 hg9;simp only[List.toList_toArray,List.append_eq,List.cons_append,List.nil_append,putAll,Act.put,List.setIfInBounds_toArray,List.set_cons_zero,List.set_cons_succ];go_wp2_with fail;go_ret;exact⟨by rw[HF.out];rfl,HG2.out.trans hg9⟩
        obtain rfl:r7=false:=by cases r7;rfl;exact absurd (hr7'.1 rfl) h7
        have HF:=Lib.hid (show eqE (.mk k1 f1 d1 o1 q1 n1 m1 nm1 ms1 by1 ks1) (.mk k2 f2 d2 o2 q2 n2 m2 nm2 ms2 by2 ks2)=false from by rw[eqE_def,decide_eq_false (fun h=>h7 h.2.2.2.2.2.2.2.2.1)];rfl);clear h0 h1 h2 h3 h4 h5 h6 h7 hr7' hr8';go_enter Tryz.func9,Tryz.ntmps9;go_upto_region 1 with(first|((with_reducible refine at_box 34 (.tmp 0) rfl ?_);refine box_step 34 (.tmp 0) (cells11 (.mk k1 f1 d1 o1 q1 n1 m1 nm1 ms1 by1 ks1) (.slice Am Nm Km) (.slice Ab Nb Kb) (.slice Ak Nk Kk)) rfl rfl (by kernel_rfl) ?_;intro w1 hb1 g1 s1;have HB1:=Lib.hid hb1;have HG1:=Lib.hid g1;have HS1:=Lib.hid s1;clear hb1 g1 s1;simp only[Act.put,List.setIfInBounds_toArray,List.set_cons_zero,List.set_cons_succ])|((with_reducible refine at_box 34 (.tmp 1) rfl ?_);refine box_step 34 (.tmp 1) (cells11 (.mk k2 f2 d2 o2 q2 n2 m2 nm2 ms2 by2 ks2) (.slice Bm Pm Lm) (.slice Bb Pb Lb) (.slice Bk Pk Lk)) rfl rfl (by kernel_rfl) ?_;intro w2 hb2 g2 s2;have HB2:=Lib.hid (And.intro (HB1.out.grew g2) hb2);have HG2:=Lib.hid (HG1.out.trans g2);clear hb2 g2 s2;simp only[Act.put,List.setIfInBounds_toArray,List.set_cons_zero,List.set_cons_succ]));refine region_seqG [.pointer (some ⟨w.heap.size,0,none⟩),.int .i64 k1,.pointer (some ⟨w1.heap.size,0,none⟩),.int .i64 k2,.bool true,.bool true,.pointer (some ⟨w.heap.size,1,none⟩),.int .i64 f1,.pointer (some ⟨w1.heap.size,1,none⟩),.int .i64 f2,.bool true,.bool true,.bool true,.pointer (some ⟨w.heap.size,2,none⟩),.int .i64 d1,.pointer (some ⟨w1.heap.size,2,none⟩),.int .i64 d2,.bool true,.bool true,.bool true,.pointer (some ⟨w.heap.size,3,none⟩),.int .i64 o1,.pointer (some ⟨w1.heap.size,3,none⟩),.int .i64 o2,.bool true,.bool true,.bool true,.pointer (some ⟨w.heap.size,4,none⟩),.int .i64 q1,.pointer (some ⟨w1.heap.size,4,none⟩),.int .i64 q2,.bool true,.bool true,.bool true,.pointer (some ⟨w.heap.size,5,none⟩),.agg (fracL n1 m1).toArray,.pointer (some ⟨w1.heap.size,5,none⟩),.agg (fracL n2 m2).toArray,.bool true,.bool true,.bool true,.pointer (some ⟨w.heap.size,7,none⟩),.string nm1,.pointer (some ⟨w1.heap.size,7,none⟩),.string nm2,.bool true,.bool true,.bool true,.pointer (some ⟨w.heap.size,8,none⟩),.slice Am Nm Km,.pointer (some ⟨w1.heap.size,8,none⟩),.slice Bm Pm Lm,.bool false,.bool false,.bool false,undef,undef,undef,undef,undef,.bool false,.bool false,undef,undef,undef,undef,undef,.bool false,.bool false] _ (by kernel_rfl) (by kernel_rfl) rfl ?sH ?sT
        case sH=>
         simp only[List.toList_toArray,List.append_eq,List.cons_append,List.nil_append,putAll,Act.put,List.setIfInBounds_toArray,List.set_cons_zero,List.set_cons_succ];refine headG_run (by kernel_rfl) (fun w' hg=>?_) ?_
         ·go_simp;exact Grew.refl _
         refine headG_run (by kernel_rfl) (fun w' hg=>?_) ?_
         ·have hc:w'.cell? ⟨w.heap.size,0,none⟩=some (.int .i64 k1):=(HB2.out.1.grew hg).cell 0;exact ld_one 3 (.tmp 5) (fun w v h=>by simp[go_sem,h]) rfl (by kernel_rfl) hc ⟨by kernel_rfl,Grew.refl _⟩
         refine headG_run (by kernel_rfl) (fun w' hg=>?_) ?_
         ·go_simp;exact Grew.refl _
         refine headG_run (by kernel_rfl) (fun w' hg=>?_) ?_
         ·have hc:w'.cell? ⟨w1.heap.size,0,none⟩=some (.int .i64 k2):=(HB2.out.2.grew hg).cell 0;exact ld_one 3 (.tmp 7) (fun w v h=>by simp[go_sem,h]) rfl (by kernel_rfl) hc ⟨by kernel_rfl,Grew.refl _⟩
         refine headG_run (by kernel_rfl) (fun w' hg=>?_) ?_
         ·go_simp;exact Grew.refl _
         refine headG_run (by kernel_rfl) (fun w' hg=>?_) ?_
         ·go_simp;exact Grew.refl _
         refine headG_run (by kernel_rfl) (fun w' hg=>?_) ?_
         ·go_simp;exact Grew.refl _
         refine headG_run (by kernel_rfl) (fun w' hg=>?_) ?_
         ·have hc:w'.cell? ⟨w.heap.size,1,none⟩=some (.int .i64 f1):=(HB2.out.1.grew hg).cell 1;exact ld_one 3 (.tmp 11) (fun w v h=>by simp[go_sem,h]) rfl (by kernel_rfl) hc ⟨by kernel_rfl,Grew.refl _⟩
         refine headG_run (by kernel_rfl) (fun w' hg=>?_) ?_
         ·go_simp;exact Grew.refl _
         refine headG_run (by kernel_rfl) (fun w' hg=>?_) ?_
         ·have hc:w'.cell? ⟨w1.heap.size,1,none⟩=some (.int .i64 f2):=(HB2.out.2.grew hg).cell 1;exact ld_one 3 (.tmp 13) (fun w v h=>by simp[go_sem,h]) rfl (by kernel_rfl) hc ⟨by kernel_rfl,Grew.refl _⟩
         refine headG_run (by kernel_rfl) (fun w' hg=>?_) ?_
         ·go_simp;exact Grew.refl _
         refine headG_run (by kernel_rfl) (fun w' hg=>?_) ?_
         ·go_simp;exact Grew.refl _
         refine headG_run (by kernel_rfl) (fun w' hg=>?_) ?_
         ·go_simp;exact Grew.refl _
         refine headG_run (by kernel_rfl) (fun w' hg=>?_) ?_
         ·go_simp;exact Grew.refl _
         refine headG_run (by kernel_rfl) (fun w' hg=>?_) ?_
         ·have hc:w'.cell? ⟨w.heap.size,2,none⟩=some (.int .i64 d1):=(HB2.out.1.grew hg).cell 2;exact ld_one 3 (.tmp 18) (fun w v h=>by simp[go_sem,h]) rfl (by kernel_rfl) hc ⟨by kernel_rfl,Grew.refl _⟩
         refine headG_run (by kernel_rfl) (fun w' hg=>?_) ?_
         ·go_simp;exact Grew.refl _
         refine headG_run (by kernel_rfl) (fun w' hg=>?_) ?_
         ·have hc:w'.cell? ⟨w1.heap.size,2,none⟩=some (.int .i64 d2):=(HB2.out.2.grew hg).cell 2;exact ld_one 3 (.tmp 20) (fun w v h=>by simp[go_sem,h]) rfl (by kernel_rfl) hc ⟨by kernel_rfl,Grew.refl _⟩
         refine headG_run (by kernel_rfl) (fun w' hg=>?_) ?_
         ·go_simp;exact Grew.refl _
         refine headG_run (by kernel_rfl) (fun w' hg=>?_) ?_
         ·go_simp;exact Grew.refl _
         refine headG_run (by kernel_rfl) (fun w' hg=>?_) ?_
         ·go_simp;exact Grew.refl _
         refine headG_run (by kernel_rfl) (fun w' hg=>?_) ?_
         ·go_simp;exact Grew.refl _
         refine headG_run (by kernel_rfl) (fun w' hg=>?_) ?_
         ·have hc:w'.cell? ⟨w.heap.size,3,none⟩=some (.int .i64 o1):=(HB2.out.1.grew hg).cell 3;exact ld_one 3 (.tmp 25) (fun w v h=>by simp[go_sem,h]) rfl (by kernel_rfl) hc ⟨by kernel_rfl,Grew.refl _⟩
         refine headG_run (by kernel_rfl) (fun w' hg=>?_) ?_
         ·go_simp;exact Grew.refl _
         refine headG_run (by kernel_rfl) (fun w' hg=>?_) ?_
         ·have hc:w'.cell? ⟨w1.heap.size,3,none⟩=some (.int .i64 o2):=(HB2.out.2.grew hg).cell 3;exact ld_one 3 (.tmp 27) (fun w v h=>by simp[go_sem,h]) rfl (by kernel_rfl) hc ⟨by kernel_rfl,Grew.refl _⟩
         refine headG_run (by kernel_rfl) (fun w' hg=>?_) ?_
         ·go_simp;exact Grew.refl _
         refine headG_run (by kernel_rfl) (fun w' hg=>?_) ?_
         ·go_simp;exact Grew.refl _
         refine headG_run (by kernel_rfl) (fun w' hg=>?_) ?_
         ·go_simp;exact Grew.refl _
         refine headG_run (by kernel_rfl) (fun w' hg=>?_) ?_
         ·go_simp;exact Grew.refl _
         refine headG_run (by kernel_rfl) (fun w' hg=>?_) ?_
         ·have hc:w'.cell? ⟨w.heap.size,4,none⟩=some (.int .i64 q1):=(HB2.out.1.grew hg).cell 4;exact ld_one 3 (.tmp 32) (fun w v h=>by simp[go_sem,h]) rfl (by kernel_rfl) hc ⟨by kernel_rfl,Grew.refl _⟩
         refine headG_run (by kernel_rfl) (fun w' hg=>?_) ?_
         ·go_simp;exact Grew.refl _
         refine headG_run (by kernel_rfl) (fun w' hg=>?_) ?_
         ·have hc:w'.cell? ⟨w1.heap.size,4,none⟩=some (.int .i64 q2):=(HB2.out.2.grew hg).cell 4;exact ld_one 3 (.tmp 34) (fun w v h=>by simp[go_sem,h]) rfl (by kernel_rfl) hc ⟨by kernel_rfl,Grew.refl _⟩
         refine headG_run (by kernel_rfl) (fun w' hg=>?_) ?_
         ·go_simp;exact Grew.refl _
         refine headG_run (by kernel_rfl) (fun w' hg=>?_) ?_
         ·go_simp;exact Grew.refl _
         refine headG_run (by kernel_rfl) (fun w' hg=>?_) ?_
         ·go_simp;exact Grew.refl _
         refine headG_run (by kernel_rfl) (fun w' hg=>?_) ?_
         ·go_simp;exact Grew.refl _
         refine headG_run (by kernel_rfl) (fun w' hg=>?_) ?_
         ·refine wp_load_mid 23 (.tmp 39) rfl (w.heap.size) 5 rfl (fracL n1 m1) _ ((HB2.out.1.grew hg).rangeN 5 _ rfl) Tryz.underlying23 rfl infoF ?_;exact⟨rfl,Grew.refl _⟩
         refine headG_run (by kernel_rfl) (fun w' hg=>?_) ?_
         ·go_simp;exact Grew.refl _
         refine headG_run (by kernel_rfl) (fun w' hg=>?_) ?_
         ·refine wp_load_mid 23 (.tmp 41) rfl (w1.heap.size) 5 rfl (fracL n2 m2) _ ((HB2.out.2.grew hg).rangeN 5 _ rfl) Tryz.underlying23 rfl infoF ?_;exact⟨rfl,Grew.refl _⟩
         refine headG_run (by kernel_rfl) (fun w' hg=>?_) ?_
         ·have hne:=t5;go_simp;exact Grew.refl _
         refine headG_run (by kernel_rfl) (fun w' hg=>?_) ?_
         ·go_simp;exact Grew.refl _
         refine headG_run (by kernel_rfl) (fun w' hg=>?_) ?_
         ·go_simp;exact Grew.refl _
         refine headG_run (by kernel_rfl) (fun w' hg=>?_) ?_
         ·go_simp;exact Grew.refl _
         refine headG_run (by kernel_rfl) (fun w' hg=>?_) ?_
         ·have hc:w'.cell? ⟨w.heap.size,7,none⟩=some (.string nm1):=(HB2.out.1.grew hg).cell 7;exact ld_one 9 (.tmp 46) (fun w v h=>by simp[go_sem,h]) rfl (by kernel_rfl) hc ⟨by kernel_rfl,Grew.refl _⟩
         refine headG_run (by kernel_rfl) (fun w' hg=>?_) ?_
         ·go_simp;exact Grew.refl _
         refine headG_run (by kernel_rfl) (fun w' hg=>?_) ?_
         ·have hc:w'.cell? ⟨w1.heap.size,7,none⟩=some (.string nm2):=(HB2.out.2.grew hg).cell 7;exact ld_one 9 (.tmp 48) (fun w v h=>by simp[go_sem,h]) rfl (by kernel_rfl) hc ⟨by kernel_rfl,Grew.refl _⟩
         refine headG_run (by kernel_rfl) (fun w' hg=>?_) ?_
         ·have hne:=t6;go_simp;exact Grew.refl _
         refine headG_run (by kernel_rfl) (fun w' hg=>?_) ?_
         ·go_simp;exact Grew.refl _
         refine headG_run (by kernel_rfl) (fun w' hg=>?_) ?_
         ·go_simp;exact Grew.refl _
         refine headG_run (by kernel_rfl) (fun w' hg=>?_) ?_
         ·go_simp;exact Grew.refl _
         refine headG_run (by kernel_rfl) (fun w' hg=>?_) ?_
         ·have hc:w'.cell? ⟨w.heap.size,8,none⟩=some (.slice Am Nm Km):=(HB2.out.1.grew hg).cell 8;exact ld_one 30 (.tmp 53) (fun w v h=>by simp[go_sem,h]) rfl (by kernel_rfl) hc ⟨by kernel_rfl,Grew.refl _⟩
         refine headG_run (by kernel_rfl) (fun w' hg=>?_) ?_
         ·go_simp;exact Grew.refl _
         refine headG_run (by kernel_rfl) (fun w' hg=>?_) ?_
         ·have hc:w'.cell? ⟨w1.heap.size,8,none⟩=some (.slice Bm Pm Lm):=(HB2.out.2.grew hg).cell 8;exact ld_one 30 (.tmp 55) (fun w v h=>by simp[go_sem,h]) rfl (by kernel_rfl) hc ⟨by kernel_rfl,Grew.refl _⟩
         refine headG_run (by kernel_rfl) (fun w' hg=>?_) ?_
         ·go_simp;(with_reducible refine(HM.out _ (HG2.out.trans hg)).mono ?_);rintro e wq ⟨rfl,kq⟩;exact⟨rfl,kq⟩
         refine headG_run (by kernel_rfl) (fun w' hg=>?_) ?_
         ·go_simp;exact Grew.refl _
         refine headG_run (by kernel_rfl) (fun w' hg=>?_) ?_
         ·go_simp;exact Grew.refl _
         refine headG_skip (by kernel_rfl) (by kernel_rfl) ?_;refine headG_skip (by kernel_rfl) (by kernel_rfl) ?_;refine headG_skip (by kernel_rfl) (by kernel_rfl) ?_;refine headG_skip (by kernel_rfl) (by kernel_rfl) ?_;refine headG_skip (by kernel_rfl) (by kernel_rfl) ?_;refine headG_run (by kernel_rfl) (fun w' hg=>?_) ?_
         ·go_simp;exact Grew.refl _
         refine headG_run (by kernel_rfl) (fun w' hg=>?_) ?_
         ·go_simp;exact Grew.refl _
         refine headG_skip (by kernel_rfl) (by kernel_rfl) ?_;refine headG_skip (by kernel_rfl) (by kernel_rfl) ?_;refine headG_skip (by kernel_rfl) (by kernel_rfl) ?_;refine headG_skip (by kernel_rfl) (by kernel_rfl) ?_;refine headG_skip (by kernel_rfl) (by kernel_rfl) ?_;refine headG_run (by kernel_rfl) (fun w' hg=>?_) ?_
         ·go_simp;exact Grew.refl _
         refine headG_run (by kernel_rfl) (fun w' hg=>?_) ?_
         ·go_simp;exact Grew.refl _
         exact headG_nil
        case sT=>
         intro w9 hg9;simp only[List.toList_toArray,List.append_eq,List.cons_append,List.nil_append,putAll,Act.put,List.setIfInBounds_toArray,List.set_cons_zero,List.set_cons_succ];go_wp2_with fail;go_ret;exact⟨by rw[HF.out];rfl,HG2.out.trans hg9⟩
       have t6:(nm1.toList==nm2.toList)=false:=by rw[ba_beq];simpa using h6
       have HF:=Lib.hid (show eqE (.mk k1 f1 d1 o1 q1 n1 m1 nm1 ms1 by1 ks1) (.mk k2 f2 d2 o2 q2 n2 m2 nm2 ms2 by2 ks2)=false from by rw[eqE_def,decide_eq_false (fun h=>h6 h.2.2.2.2.2.2.2.1)];rfl);clear h0 h1 h2 h3 h4 h5 h6 hr7' hr8';go_enter Tryz.func9,Tryz.ntmps9;go_upto_region 1 with(first|((with_reducible refine at_box 34 (.tmp 0) rfl ?_);refine box_step 34 (.tmp 0) (cells11 (.mk k1 f1 d1 o1 q1 n1 m1 nm1 ms1 by1 ks1) (.slice Am Nm Km) (.slice Ab Nb Kb) (.slice Ak Nk Kk)) rfl rfl (by kernel_rfl) ?_;intro w1 hb1 g1 s1;have HB1:=Lib.hid hb1;have HG1:=Lib.hid g1;have HS1:=Lib.hid s1;clear hb1 g1 s1;simp only[Act.put,List.setIfInBounds_toArray,List.set_cons_zero,List.set_cons_succ])|((with_reducible refine at_box 34 (.tmp 1) rfl ?_);refine box_step 34 (.tmp 1) (cells11 (.mk k2 f2 d2 o2 q2 n2 m2 nm2 ms2 by2 ks2) (.slice Bm Pm Lm) (.slice Bb Pb Lb) (.slice Bk Pk Lk)) rfl rfl (by kernel_rfl) ?_;intro w2 hb2 g2 s2;have HB2:=Lib.hid (And.intro (HB1.out.grew g2) hb2);have HG2:=Lib.hid (HG1.out.trans g2);clear hb2 g2 s2;simp only[Act.put,List.setIfInBounds_toArray,List.set_cons_zero,List.set_cons_succ]));refine region_seqG [.pointer (some ⟨w.heap.size,0,none⟩),.int .i64 k1,.pointer (some ⟨w1.heap.size,0,none⟩),.int .i64 k2,.bool true,.bool true,.pointer (some ⟨w.heap.size,1,none⟩),.int .i64 f1,.pointer (some ⟨w1.heap.size,1,none⟩),.int .i64 f2,.bool true,.bool true,.bool true,.pointer (some ⟨w.heap.size,2,none⟩),.int .i64 d1,.pointer (some ⟨w1.heap.size,2,none⟩),.int .i64 d2,.bool true,.bool true,.bool true,.pointer (some ⟨w.heap.size,3,none⟩),.int .i64 o1,.pointer (some ⟨w1.heap.size,3,none⟩),.int .i64 o2,.bool true,.bool true,.bool true,.pointer (some ⟨w.heap.size,4,none⟩),.int .i64 q1,.pointer (some ⟨w1.heap.size,4,none⟩),.int .i64 q2,.bool true,.bool true,.bool true,.pointer (some ⟨w.heap.size,5,none⟩),.agg (fracL n1 m1).toArray,.pointer (some ⟨w1.heap.size,5,none⟩),.agg (fracL n2 m2).toArray,.bool true,.bool true,.bool true,.pointer (some ⟨w.heap.size,7,none⟩),.string nm1,.pointer (some ⟨w1.heap.size,7,none⟩),.string nm2,.bool false,.bool false,.bool false,undef,undef,undef,undef,undef,.bool false,.bool false,undef,undef,undef,undef,undef,.bool false,.bool false,undef,undef,undef,undef,undef,.bool false,.bool false] _ (by kernel_rfl) (by kernel_rfl) rfl ?sH ?sT
       case sH=>
        simp only[List.toList_toArray,List.append_eq,List.cons_append,List.nil_append,putAll,Act.put,List.setIfInBounds_toArray,List.set_cons_zero,List.set_cons_succ];refine headG_run (by kernel_rfl) (fun w' hg=>?_) ?_
        ·go_simp;exact Grew.refl _
        refine headG_run (by kernel_rfl) (fun w' hg=>?_) ?_
        ·have hc:w'.cell? ⟨w.heap.size,0,none⟩=some (.int .i64 k1):=(HB2.out.1.grew hg).cell 0;exact ld_one 3 (.tmp 5) (fun w v h=>by simp[go_sem,h]) rfl (by kernel_rfl) hc ⟨by kernel_rfl,Grew.refl _⟩
        refine headG_run (by kernel_rfl) (fun w' hg=>?_) ?_
        ·go_simp;exact Grew.refl _
        refine headG_run (by kernel_rfl) (fun w' hg=>?_) ?_
        ·have hc:w'.cell? ⟨w1.heap.size,0,none⟩=some (.int .i64 k2):=(HB2.out.2.grew hg).cell 0;exact ld_one 3 (.tmp 7) (fun w v h=>by simp[go_sem,h]) rfl (by kernel_rfl) hc ⟨by kernel_rfl,Grew.refl _⟩
        refine headG_run (by kernel_rfl) (fun w' hg=>?_) ?_
        ·go_simp;exact Grew.refl _
        refine headG_run (by kernel_rfl) (fun w' hg=>?_) ?_
        ·go_simp;exact Grew.refl _
        refine headG_run (by kernel_rfl) (fun w' hg=>?_) ?_
        ·go_simp;exact Grew.refl _
        refine headG_run (by kernel_rfl) (fun w' hg=>?_) ?_
        ·have hc:w'.cell? ⟨w.heap.size,1,none⟩=some (.int .i64 f1):=(HB2.out.1.grew hg).cell 1;exact ld_one 3 (.tmp 11) (fun w v h=>by simp[go_sem,h]) rfl (by kernel_rfl) hc ⟨by kernel_rfl,Grew.refl _⟩
        refine headG_run (by kernel_rfl) (fun w' hg=>?_) ?_
        ·go_simp;exact Grew.refl _
        refine headG_run (by kernel_rfl) (fun w' hg=>?_) ?_
        ·have hc:w'.cell? ⟨w1.heap.size,1,none⟩=some (.int .i64 f2):=(HB2.out.2.grew hg).cell 1;exact ld_one 3 (.tmp 13) (fun w v h=>by simp[go_sem,h]) rfl (by kernel_rfl) hc ⟨by kernel_rfl,Grew.refl _⟩
        refine headG_run (by kernel_rfl) (fun w' hg=>?_) ?_
        ·go_simp;exact Grew.refl _
        refine headG_run (by kernel_rfl) (fun w' hg=>?_) ?_
        ·go_simp;exact Grew.refl _
        refine headG_run (by kernel_rfl) (fun w' hg=>?_) ?_
        ·go_simp;exact Grew.refl _
        refine headG_run (by kernel_rfl) (fun w' hg=>?_) ?_
        ·go_simp;exact Grew.refl _
        refine headG_run (by kernel_rfl) (fun w' hg=>?_) ?_
        ·have hc:w'.cell? ⟨w.heap.size,2,none⟩=some (.int .i64 d1):=(HB2.out.1.grew hg).cell 2;exact ld_one 3 (.tmp 18) (fun w v h=>by simp[go_sem,h]) rfl (by kernel_rfl) hc ⟨by kernel_rfl,Grew.refl _⟩
        refine headG_run (by kernel_rfl) (fun w' hg=>?_) ?_
        ·go_simp;exact Grew.refl _
        refine headG_run (by kernel_rfl) (fun w' hg=>?_) ?_
        ·have hc:w'.cell? ⟨w1.heap.size,2,none⟩=some (.int .i64 d2):=(HB2.out.2.grew hg).cell 2;exact ld_one 3 (.tmp 20) (fun w v h=>by simp[go_sem,h]) rfl (by kernel_rfl) hc ⟨by kernel_rfl,Grew.refl _⟩
        refine headG_run (by kernel_rfl) (fun w' hg=>?_) ?_
        ·go_simp;exact Grew.refl _
        refine headG_run (by kernel_rfl) (fun w' hg=>?_) ?_
        ·go_simp;exact Grew.refl _
        refine headG_run (by kernel_rfl) (fun w' hg=>?_) ?_
        ·go_simp;exact Grew.refl _
        refine headG_run (by kernel_rfl) (fun w' hg=>?_) ?_
        ·go_simp;exact Grew.refl _
        refine headG_run (by kernel_rfl) (fun w' hg=>?_) ?_
        ·have hc:w'.cell? ⟨w.heap.size,3,none⟩=some (.int .i64 o1):=(HB2.out.1.grew hg).cell 3;exact ld_one 3 (.tmp 25) (fun w v h=>by simp[go_sem,h]) rfl (by kernel_rfl) hc ⟨by kernel_rfl,Grew.refl _⟩
        refine headG_run (by kernel_rfl) (fun w' hg=>?_) ?_
        ·go_simp;exact Grew.refl _
        refine headG_run (by kernel_rfl) (fun w' hg=>?_) ?_
        ·have hc:w'.cell? ⟨w1.heap.size,3,none⟩=some (.int .i64 o2):=(HB2.out.2.grew hg).cell 3;exact ld_one 3 (.tmp 27) (fun w v h=>by simp[go_sem,h]) rfl (by kernel_rfl) hc ⟨by kernel_rfl,Grew.refl _⟩
        refine headG_run (by kernel_rfl) (fun w' hg=>?_) ?_
        ·go_simp;exact Grew.refl _
        refine headG_run (by kernel_rfl) (fun w' hg=>?_) ?_
        ·go_simp;exact Grew.refl _
        refine headG_run (by kernel_rfl) (fun w' hg=>?_) ?_
        ·go_simp;exact Grew.refl _
        refine headG_run (by kernel_rfl) (fun w' hg=>?_) ?_
        ·go_simp;exact Grew.refl _
        refine headG_run (by kernel_rfl) (fun w' hg=>?_) ?_
        ·have hc:w'.cell? ⟨w.heap.size,4,none⟩=some (.int .i64 q1):=(HB2.out.1.grew hg).cell 4;exact ld_one 3 (.tmp 32) (fun w v h=>by simp[go_sem,h]) rfl (by kernel_rfl) hc ⟨by kernel_rfl,Grew.refl _⟩
        refine headG_run (by kernel_rfl) (fun w' hg=>?_) ?_
        ·go_simp;exact Grew.refl _
        refine headG_run (by kernel_rfl) (fun w' hg=>?_) ?_
        ·have hc:w'.cell? ⟨w1.heap.size,4,none⟩=some (.int .i64 q2):=(HB2.out.2.grew hg).cell 4;exact ld_one 3 (.tmp 34) (fun w v h=>by simp[go_sem,h]) rfl (by kernel_rfl) hc ⟨by kernel_rfl,Grew.refl _⟩
        refine headG_run (by kernel_rfl) (fun w' hg=>?_) ?_
        ·go_simp;exact Grew.refl _
        refine headG_run (by kernel_rfl) (fun w' hg=>?_) ?_
        ·go_simp;exact Grew.refl _
        refine headG_run (by kernel_rfl) (fun w' hg=>?_) ?_
        ·go_simp;exact Grew.refl _
        refine headG_run (by kernel_rfl) (fun w' hg=>?_) ?_
        ·go_simp;exact Grew.refl _
        refine headG_run (by kernel_rfl) (fun w' hg=>?_) ?_
        ·refine wp_load_mid 23 (.tmp 39) rfl (w.heap.size) 5 rfl (fracL n1 m1) _ ((HB2.out.1.grew hg).rangeN 5 _ rfl) Tryz.underlying23 rfl infoF ?_;exact⟨rfl,Grew.refl _⟩
        refine headG_run (by kernel_rfl) (fun w' hg=>?_) ?_
        ·go_simp;exact Grew.refl _
        refine headG_run (by kernel_rfl) (fun w' hg=>?_) ?_
        ·refine wp_load_mid 23 (.tmp 41) rfl (w1.heap.size) 5 rfl (fracL n2 m2) _ ((HB2.out.2.grew hg).rangeN 5 _ rfl) Tryz.underlying23 rfl infoF ?_;exact⟨rfl,Grew.refl _⟩
        refine headG_run (by kernel_rfl) (fun w' hg=>?_) ?_
        ·have hne:=t5;go_simp;exact Grew.refl _
        refine headG_run (by kernel_rfl) (fun w' hg=>?_) ?_
        ·go_simp;exact Grew.refl _
        refine headG_run (by kernel_rfl) (fun w' hg=>?_) ?_
        ·go_simp;exact Grew.refl _
        refine headG_run (by kernel_rfl) (fun w' hg=>?_) ?_
        ·go_simp;exact Grew.refl _
        refine headG_run (by kernel_rfl) (fun w' hg=>?_) ?_
        ·have hc:w'.cell? ⟨w.heap.size,7,none⟩=some (.string nm1):=(HB2.out.1.grew hg).cell 7;exact ld_one 9 (.tmp 46) (fun w v h=>by simp[go_sem,h]) rfl (by kernel_rfl) hc ⟨by kernel_rfl,Grew.refl _⟩
        refine headG_run (by kernel_rfl) (fun w' hg=>?_) ?_
        ·go_simp;exact Grew.refl _
        refine headG_run (by kernel_rfl) (fun w' hg=>?_) ?_
        ·have hc:w'.cell? ⟨w1.heap.size,7,none⟩=some (.string nm2):=(HB2.out.2.grew hg).cell 7;exact ld_one 9 (.tmp 48) (fun w v h=>by simp[go_sem,h]) rfl (by kernel_rfl) hc ⟨by kernel_rfl,Grew.refl _⟩
        refine headG_run (by kernel_rfl) (fun w' hg=>?_) ?_
        ·have hne:=t6;go_simp;exact Grew.refl _
        refine headG_run (by kernel_rfl) (fun w' hg=>?_) ?_
        ·go_simp;exact Grew.refl _
        refine headG_run (by kernel_rfl) (fun w' hg=>?_) ?_
        ·go_simp;exact Grew.refl _
        refine headG_skip (by kernel_rfl) (by kernel_rfl) ?_;refine headG_skip (by kernel_rfl) (by kernel_rfl) ?_;refine headG_skip (by kernel_rfl) (by kernel_rfl) ?_;refine headG_skip (by kernel_rfl) (by kernel_rfl) ?_;refine headG_skip (by kernel_rfl) (by kernel_rfl) ?_;refine headG_run (by kernel_rfl) (fun w' hg=>?_) ?_
        ·go_simp;exact Grew.refl _
        refine headG_run (by kernel_rfl) (fun w' hg=>?_) ?_
        ·go_simp;exact Grew.refl _
        refine headG_skip (by kernel_rfl) (by kernel_rfl) ?_;refine headG_skip (by kernel_rfl) (by kernel_rfl) ?_;refine headG_skip (by kernel_rfl) (by kernel_rfl) ?_;refine headG_skip (by kernel_rfl) (by kernel_rfl) ?_;refine headG_skip (by kernel_rfl) (by kernel_rfl) ?_;refine headG_run (by kernel_rfl) (fun w' hg=>?_) ?_
        ·go_simp;exact Grew.refl _
        refine headG_run (by kernel_rfl) (fun w' hg=>?_) ?_
        ·go_simp;exact Grew.refl _
        refine headG_skip (by kernel_rfl) (by kernel_rfl) ?_;refine headG_skip (by kernel_rfl) (by kernel_rfl) ?_;refine headG_skip (by kernel_rfl) (by kernel_rfl) ?_;refine headG_skip (by kernel_rfl) (by kernel_rfl) ?_;refine headG_skip (by kernel_rfl) (by kernel_rfl) ?_;refine headG_run (by kernel_rfl) (fun w' hg=>?_) ?_
        ·go_simp;exact Grew.refl _
        refine headG_run (by kernel_rfl) (fun w' hg=>?_) ?_
        ·go_simp;exact Grew.refl _
        exact headG_nil
       case sT=>
        intro w9 hg9;simp only[List.toList_toArray,List.append_eq,List.cons_append,List.nil_append,putAll,Act.put,List.setIfInBounds_toArray,List.set_cons_zero,List.set_cons_succ];go_wp2_with fail;go_ret;exact⟨by rw[HF.out];rfl,HG2.out.trans hg9⟩
      have t5:∀w,(binOp .eql 23 (.agg (fracL n1 m1).toArray) (.agg (fracL n2 m2).toArray)).run Tryz.prog w= .ok (.bool false) w:=fun w=>fracEq_run n1 m1 n2 m2 false (by simpa using h5) w
      have HF:=Lib.hid (show eqE (.mk k1 f1 d1 o1 q1 n1 m1 nm1 ms1 by1 ks1) (.mk k2 f2 d2 o2 q2 n2 m2 nm2 ms2 by2 ks2)=false from by rw[eqE_def,decide_eq_false (fun h=>h5 ⟨h.2.2.2.2.2.1,h.2.2.2.2.2.2.1⟩)];rfl);clear h0 h1 h2 h3 h4 h5 hr7' hr8';go_enter Tryz.func9,Tryz.ntmps9;go_upto_region 1 with(first|((with_reducible refine at_box 34 (.tmp 0) rfl ?_);refine box_step 34 (.tmp 0) (cells11 (.mk k1 f1 d1 o1 q1 n1 m1 nm1 ms1 by1 ks1) (.slice Am Nm Km) (.slice Ab Nb Kb) (.slice Ak Nk Kk)) rfl rfl (by kernel_rfl) ?_;intro w1 hb1 g1 s1;have HB1:=Lib.hid hb1;have HG1:=Lib.hid g1;have HS1:=Lib.hid s1;clear hb1 g1 s1;simp only[Act.put,List.setIfInBounds_toArray,List.set_cons_zero,List.set_cons_succ])|((with_reducible refine at_box 34 (.tmp 1) rfl ?_);refine box_step 34 (.tmp 1) (cells11 (.mk k2 f2 d2 o2 q2 n2 m2 nm2 ms2 by2 ks2) (.slice Bm Pm Lm) (.slice Bb Pb Lb) (.slice Bk Pk Lk)) rfl rfl (by kernel_rfl) ?_;intro w2 hb2 g2 s2;have HB2:=Lib.hid (And.intro (HB1.out.grew g2) hb2);have HG2:=Lib.hid (HG1.out.trans g2);clear hb2 g2 s2;simp only[Act.put,List.setIfInBounds_toArray,List.set_cons_zero,List.set_cons_succ]));refine region_seqG [.pointer (some ⟨w.heap.size,0,none⟩),.int .i64 k1,.pointer (some ⟨w1.heap.size,0,none⟩),.int .i64 k2,.bool true,.bool true,.pointer (some ⟨w.heap.size,1,none⟩),.int .i64 f1,.pointer (some ⟨w1.heap.size,1,none⟩),.int .i64 f2,.bool true,.bool true,.bool true,.pointer (some ⟨w.heap.size,2,none⟩),.int .i64 d1,.pointer (some ⟨w1.heap.size,2,none⟩),.int .i64 d2,.bool true,.bool true,.bool true,.pointer (some ⟨w.heap.size,3,none⟩),.int .i64 o1,.pointer (some ⟨w1.heap.size,3,none⟩),.int .i64 o2,.bool true,.bool true,.bool true,.pointer (some ⟨w.heap.size,4,none⟩),.int .i64 q1,.pointer (some ⟨w1.heap.size,4,none⟩),.int .i64 q2,.bool true,.bool true,.bool true,.pointer (some ⟨w.heap.size,5,none⟩),.agg (fracL n1 m1).toArray,.pointer (some ⟨w1.heap.size,5,none⟩),.agg (fracL n2 m2).toArray,.bool false,.bool false,.bool false,undef,undef,undef,undef,undef,.bool false,.bool false,undef,undef,undef,undef,undef,.bool false,.bool false,undef,undef,undef,undef,undef,.bool false,.bool false,undef,undef,undef,undef,undef,.bool false,.bool false] _ (by kernel_rfl) (by kernel_rfl) rfl ?sH ?sT
      case sH=>
       simp only[List.toList_toArray,List.append_eq,List.cons_append,List.nil_append,putAll,Act.put,List.setIfInBounds_toArray,List.set_cons_zero,List.set_cons_succ];refine headG_run (by kernel_rfl) (fun w' hg=>?_) ?_
       ·go_simp;exact Grew.refl _
       refine headG_run (by kernel_rfl) (fun w' hg=>?_) ?_
       ·have hc:w'.cell? ⟨w.heap.size,0,none⟩=some (.int .i64 k1):=(HB2.out.1.grew hg).cell 0;exact ld_one 3 (.tmp 5) (fun w v h=>by simp[go_sem,h]) rfl (by kernel_rfl) hc ⟨by kernel_rfl,Grew.refl _⟩
       refine headG_run (by kernel_rfl) (fun w' hg=>?_) ?_
       ·go_simp;exact Grew.refl _
       refine headG_run (by kernel_rfl) (fun w' hg=>?_) ?_
       ·have hc:w'.cell? ⟨w1.heap.size,0,none⟩=some (.int .i64 k2):=(HB2.out.2.grew hg).cell 0;exact ld_one 3 (.tmp 7) (fun w v h=>by simp[go_sem,h]) rfl (by kernel_rfl) hc ⟨by kernel_rfl,Grew.refl _⟩
       refine headG_run (by kernel_rfl) (fun w' hg=>?_) ?_
       ·go_simp;exact Grew.refl _
       refine headG_run (by kernel_rfl) (fun w' hg=>?_) ?_
       ·go_simp;exact Grew.refl _
       refine headG_run (by kernel_rfl) (fun w' hg=>?_) ?_
       ·go_simp;exact Grew.refl _
       refine headG_run (by kernel_rfl) (fun w' hg=>?_) ?_
       ·have hc:w'.cell? ⟨w.heap.size,1,none⟩=some (.int .i64 f1):=(HB2.out.1.grew hg).cell 1;exact ld_one 3 (.tmp 11) (fun w v h=>by simp[go_sem,h]) rfl (by kernel_rfl) hc ⟨by kernel_rfl,Grew.refl _⟩
       refine headG_run (by kernel_rfl) (fun w' hg=>?_) ?_
       ·go_simp;exact Grew.refl _
       refine headG_run (by kernel_rfl) (fun w' hg=>?_) ?_
       ·have hc:w'.cell? ⟨w1.heap.size,1,none⟩=some (.int .i64 f2):=(HB2.out.2.grew hg).cell 1;exact ld_one 3 (.tmp 13) (fun w v h=>by simp[go_sem,h]) rfl (by kernel_rfl) hc ⟨by kernel_rfl,Grew.refl _⟩
       refine headG_run (by kernel_rfl) (fun w' hg=>?_) ?_
       ·go_simp;exact Grew.refl _
       refine headG_run (by kernel_rfl) (fun w' hg=>?_) ?_
       ·go_simp;exact Grew.refl _
       refine headG_run (by kernel_rfl) (fun w' hg=>?_) ?_
       ·go_simp;exact Grew.refl _
       refine headG_run (by kernel_rfl) (fun w' hg=>?_) ?_
       ·go_simp;exact Grew.refl _
       refine headG_run (by kernel_rfl) (fun w' hg=>?_) ?_
       ·have hc:w'.cell? ⟨w.heap.size,2,none⟩=some (.int .i64 d1):=(HB2.out.1.grew hg).cell 2;exact ld_one 3 (.tmp 18) (fun w v h=>by simp[go_sem,h]) rfl (by kernel_rfl) hc ⟨by kernel_rfl,Grew.refl _⟩
       refine headG_run (by kernel_rfl) (fun w' hg=>?_) ?_
       ·go_simp;exact Grew.refl _
       refine headG_run (by kernel_rfl) (fun w' hg=>?_) ?_
       ·have hc:w'.cell? ⟨w1.heap.size,2,none⟩=some (.int .i64 d2):=(HB2.out.2.grew hg).cell 2;exact ld_one 3 (.tmp 20) (fun w v h=>by simp[go_sem,h]) rfl (by kernel_rfl) hc ⟨by kernel_rfl,Grew.refl _⟩
       refine headG_run (by kernel_rfl) (fun w' hg=>?_) ?_
       ·go_simp;exact Grew.refl _
       refine headG_run (by kernel_rfl) (fun w' hg=>?_) ?_
       ·go_simp;exact Grew.refl _
       refine headG_run (by kernel_rfl) (fun w' hg=>?_) ?_
       ·go_simp;exact Grew.refl _
       refine headG_run (by kernel_rfl) (fun w' hg=>?_) ?_
       ·go_simp;exact Grew.refl _
       refine headG_run (by kernel_rfl) (fun w' hg=>?_) ?_
       ·have hc:w'.cell? ⟨w.heap.size,3,none⟩=some (.int .i64 o1):=(HB2.out.1.grew hg).cell 3;exact ld_one 3 (.tmp 25) (fun w v h=>by simp[go_sem,h]) rfl (by kernel_rfl) hc ⟨by kernel_rfl,Grew.refl _⟩
       refine headG_run (by kernel_rfl) (fun w' hg=>?_) ?_
       ·go_simp;exact Grew.refl _
       refine headG_run (by kernel_rfl) (fun w' hg=>?_) ?_
       ·have hc:w'.cell? ⟨w1.heap.size,3,none⟩=some (.int .i64 o2):=(HB2.out.2.grew hg).cell 3;exact ld_one 3 (.tmp 27) (fun w v h=>by simp[go_sem,h]) rfl (by kernel_rfl) hc ⟨by kernel_rfl,Grew.refl _⟩
       refine headG_run (by kernel_rfl) (fun w' hg=>?_) ?_
       ·go_simp;exact Grew.refl _
       refine headG_run (by kernel_rfl) (fun w' hg=>?_) ?_
       ·go_simp;exact Grew.refl _
       refine headG_run (by kernel_rfl) (fun w' hg=>?_) ?_
       ·go_simp;exact Grew.refl _
       refine headG_run (by kernel_rfl) (fun w' hg=>?_) ?_
       ·go_simp;exact Grew.refl _
       refine headG_run (by kernel_rfl) (fun w' hg=>?_) ?_
       ·have hc:w'.cell? ⟨w.heap.size,4,none⟩=some (.int .i64 q1):=(HB2.out.1.grew hg).cell 4;exact ld_one 3 (.tmp 32) (fun w v h=>by simp[go_sem,h]) rfl (by kernel_rfl) hc ⟨by kernel_rfl,Grew.refl _⟩
       refine headG_run (by kernel_rfl) (fun w' hg=>?_) ?_
       ·go_simp;exact Grew.refl _
       refine headG_run (by kernel_rfl) (fun w' hg=>?_) ?_
       ·have hc:w'.cell? ⟨w1.heap.size,4,none⟩=some (.int .i64 q2):=(HB2.out.2.grew hg).cell 4;exact ld_one 3 (.tmp 34) (fun w v h=>by simp[go_sem,h]) rfl (by kernel_rfl) hc ⟨by kernel_rfl,Grew.refl _⟩
       refine headG_run (by kernel_rfl) (fun w' hg=>?_) ?_
       ·go_simp;exact Grew.refl _
       refine headG_run (by kernel_rfl) (fun w' hg=>?_) ?_
       ·go_simp;exact Grew.refl _
       refine headG_run (by kernel_rfl) (fun w' hg=>?_) ?_
       ·go_simp;exact Grew.refl _
       refine headG_run (by kernel_rfl) (fun w' hg=>?_) ?_
       ·go_simp;exact Grew.refl _
       refine headG_run (by kernel_rfl) (fun w' hg=>?_) ?_
       ·refine wp_load_mid 23 (.tmp 39) rfl (w.heap.size) 5 rfl (fracL n1 m1) _ ((HB2.out.1.grew hg).rangeN 5 _ rfl) Tryz.underlying23 rfl infoF ?_;exact⟨rfl,Grew.refl _⟩
       refine headG_run (by kernel_rfl) (fun w' hg=>?_) ?_
       ·go_simp;exact Grew.refl _
       refine headG_run (by kernel_rfl) (fun w' hg=>?_) ?_
       ·refine wp_load_mid 23 (.tmp 41) rfl (w1.heap.size) 5 rfl (fracL n2 m2) _ ((HB2.out.2.grew hg).rangeN 5 _ rfl) Tryz.underlying23 rfl infoF ?_;exact⟨rfl,Grew.refl _⟩
       refine headG_run (by kernel_rfl) (fun w' hg=>?_) ?_
       ·have hne:=t5;go_simp;exact Grew.refl _
       refine headG_run (by kernel_rfl) (fun w' hg=>?_) ?_
       ·go_simp;exact Grew.refl _
       refine headG_run (by kernel_rfl) (fun w' hg=>?_) ?_
       ·go_simp;exact Grew.refl _
       refine headG_skip (by kernel_rfl) (by kernel_rfl) ?_;refine headG_skip (by kernel_rfl) (by kernel_rfl) ?_;refine headG_skip (by kernel_rfl) (by kernel_rfl) ?_;refine headG_skip (by kernel_rfl) (by kernel_rfl) ?_;refine headG_skip (by kernel_rfl) (by kernel_rfl) ?_;refine headG_run (by kernel_rfl) (fun w' hg=>?_) ?_
       ·go_simp;exact Grew.refl _
       refine headG_run (by kernel_rfl) (fun w' hg=>?_) ?_
       ·go_simp;exact Grew.refl _
       refine headG_skip (by kernel_rfl) (by kernel_rfl) ?_;refine headG_skip (by kernel_rfl) (by kernel_rfl) ?_;refine headG_skip (by kernel_rfl) (by kernel_rfl) ?_;refine headG_skip (by kernel_rfl) (by kernel_rfl) ?_;refine headG_skip (by kernel_rfl) (by kernel_rfl) ?_;refine headG_run (by kernel_rfl) (fun w' hg=>?_) ?_
       ·go_simp;exact Grew.refl _
       refine headG_run (by kernel_rfl) (fun w' hg=>?_) ?_
       ·go_simp;exact Grew.refl _
       refine headG_skip (by kernel_rfl) (by kernel_rfl) ?_;refine headG_skip (by kernel_rfl) (by kernel_rfl) ?_;refine headG_skip (by kernel_rfl) (by kernel_rfl) ?_;refine headG_skip (by kernel_rfl) (by kernel_rfl) ?_;refine headG_skip (by kernel_rfl) (by kernel_rfl) ?_;refine headG_run (by kernel_rfl) (fun w' hg=>?_) ?_
       ·go_simp;exact Grew.refl _
       refine headG_run (by kernel_rfl) (fun w' hg=>?_) ?_
       ·go_simp;exact Grew.refl _
       refine headG_skip (by kernel_rfl) (by kernel_rfl) ?_;refine headG_skip (by kernel_rfl) (by kernel_rfl) ?_;refine headG_skip (by kernel_rfl) (by kernel_rfl) ?_;refine headG_skip (by kernel_rfl) (by kernel_rfl) ?_;refine headG_skip (by kernel_rfl) (by kernel_rfl) ?_;refine headG_run (by kernel_rfl) (fun w' hg=>?_) ?_
       ·go_simp;exact Grew.refl _
       refine headG_run (by kernel_rfl) (fun w' hg=>?_) ?_
       ·go_simp;exact Grew.refl _
       exact headG_nil
      case sT=>
       intro w9 hg9;simp only[List.toList_toArray,List.append_eq,List.cons_append,List.nil_append,putAll,Act.put,List.setIfInBounds_toArray,List.set_cons_zero,List.set_cons_succ];go_wp2_with fail;go_ret;exact⟨by rw[HF.out];rfl,HG2.out.trans hg9⟩
     have t4:(q1==q2)=false:=by rw[beq_eq_false_iff_ne];exact h4
     have HF:=Lib.hid (show eqE (.mk k1 f1 d1 o1 q1 n1 m1 nm1 ms1 by1 ks1) (.mk k2 f2 d2 o2 q2 n2 m2 nm2 ms2 by2 ks2)=false from by rw[eqE_def,decide_eq_false (fun h=>h4 h.2.2.2.2.1)];rfl);clear h0 h1 h2 h3 h4 hr7' hr8';go_enter Tryz.func9,Tryz.ntmps9;go_upto_region 1 with(first|((with_reducible refine at_box 34 (.tmp 0) rfl ?_);refine box_step 34 (.tmp 0) (cells11 (.mk k1 f1 d1 o1 q1 n1 m1 nm1 ms1 by1 ks1) (.slice Am Nm Km) (.slice Ab Nb Kb) (.slice Ak Nk Kk)) rfl rfl (by kernel_rfl) ?_;intro w1 hb1 g1 s1;have HB1:=Lib.hid hb1;have HG1:=Lib.hid g1;have HS1:=Lib.hid s1;clear hb1 g1 s1;simp only[Act.put,List.setIfInBounds_toArray,List.set_cons_zero,List.set_cons_succ])|((with_reducible refine at_box 34 (.tmp 1) rfl ?_);refine box_step 34 (.tmp 1) (cells11 (.mk k2 f2 d2 o2 q2 n2 m2 nm2 ms2 by2 ks2) (.slice Bm Pm Lm) (.slice Bb Pb Lb) (.slice Bk Pk Lk)) rfl rfl (by kernel_rfl) ?_;intro w2 hb2 g2 s2;have HB2:=Lib.hid (And.intro (HB1.out.grew g2) hb2);have HG2:=Lib.hid (HG1.out.trans g2);clear hb2 g2 s2;simp only[Act.put,List.setIfInBounds_toArray,List.set_cons_zero,List.set_cons_succ]));refine region_seqG [.pointer (some ⟨w.heap.size,0,none⟩),.int .i64 k1,.pointer (some ⟨w1.heap.size,0,none⟩),.int .i64 k2,.bool true,.bool true,.pointer (some ⟨w.heap.size,1,none⟩),.int .i64 f1,.pointer (some ⟨w1.heap.size,1,none⟩),.int .i64 f2,.bool true,.bool true,.bool true,.pointer (some ⟨w.heap.size,2,none⟩),.int .i64 d1,.pointer (some ⟨w1.heap.size,2,none⟩),.int .i64 d2,.bool true,.bool true,.bool true,.pointer (some ⟨w.heap.size,3,none⟩),.int .i64 o1,.pointer (some ⟨w1.heap.size,3,none⟩),.int .i64 o2,.bool true,.bool true,.bool true,.pointer (some ⟨w.heap.size,4,none⟩),.int .i64 q1,.pointer (some ⟨w1.heap.size,4,none⟩),.int .i64 q2,.bool false,.bool false,.bool false,undef,undef,undef,undef,undef,.bool false,.bool false,undef,undef,undef,undef,undef,.bool false,.bool false,undef,undef,undef,undef,undef,.bool false,.bool false,undef,undef,undef,undef,undef,.bool false,.bool false,undef,undef,undef,undef,undef,.bool false,.bool false] _ (by kernel_rfl) (by kernel_rfl) rfl ?sH ?sT
     case sH=>
      simp only[List.toList_toArray,List.append_eq,List.cons_append,List.nil_append,putAll,Act.put,List.setIfInBounds_toArray,List.set_cons_zero,List.set_cons_succ];refine headG_run (by kernel_rfl) (fun w' hg=>?_) ?_
      ·go_simp;exact Grew.refl _
      refine headG_run (by kernel_rfl) (fun w' hg=>?_) ?_
      ·have hc:w'.cell? ⟨w.heap.size,0,none⟩=some (.int .i64 k1):=(HB2.out.1.grew hg).cell 0;exact ld_one 3 (.tmp 5) (fun w v h=>by simp[go_sem,h]) rfl (by kernel_rfl) hc ⟨by kernel_rfl,Grew.refl _⟩
      refine headG_run (by kernel_rfl) (fun w' hg=>?_) ?_
      ·go_simp;exact Grew.refl _
      refine headG_run (by kernel_rfl) (fun w' hg=>?_) ?_
      ·have hc:w'.cell? ⟨w1.heap.size,0,none⟩=some (.int .i64 k2):=(HB2.out.2.grew hg).cell 0;exact ld_one 3 (.tmp 7) (fun w v h=>by simp[go_sem,h]) rfl (by kernel_rfl) hc ⟨by kernel_rfl,Grew.refl _⟩
      refine headG_run (by kernel_rfl) (fun w' hg=>?_) ?_
      ·go_simp;exact Grew.refl _
      refine headG_run (by kernel_rfl) (fun w' hg=>?_) ?_
      ·go_simp;exact Grew.refl _
      refine headG_run (by kernel_rfl) (fun w' hg=>?_) ?_
      ·go_simp;exact Grew.refl _
      refine headG_run (by kernel_rfl) (fun w' hg=>?_) ?_
      ·have hc:w'.cell? ⟨w.heap.size,1,none⟩=some (.int .i64 f1):=(HB2.out.1.grew hg).cell 1;exact ld_one 3 (.tmp 11) (fun w v h=>by simp[go_sem,h]) rfl (by kernel_rfl) hc ⟨by kernel_rfl,Grew.refl _⟩
      refine headG_run (by kernel_rfl) (fun w' hg=>?_) ?_
      ·go_simp;exact Grew.refl _
      refine headG_run (by kernel_rfl) (fun w' hg=>?_) ?_
      ·have hc:w'.cell? ⟨w1.heap.size,1,none⟩=some (.int .i64 f2):=(HB2.out.2.grew hg).cell 1;exact ld_one 3 (.tmp 13) (fun w v h=>by simp[go_sem,h]) rfl (by kernel_rfl) hc ⟨by kernel_rfl,Grew.refl _⟩
      refine headG_run (by kernel_rfl) (fun w' hg=>?_) ?_
      ·go_simp;exact Grew.refl _
      refine headG_run (by kernel_rfl) (fun w' hg=>?_) ?_
      ·go_simp;exact Grew.refl _
      refine headG_run (by kernel_rfl) (fun w' hg=>?_) ?_
      ·go_simp;exact Grew.refl _
      refine headG_run (by kernel_rfl) (fun w' hg=>?_) ?_
      ·go_simp;exact Grew.refl _
      refine headG_run (by kernel_rfl) (fun w' hg=>?_) ?_
      ·have hc:w'.cell? ⟨w.heap.size,2,none⟩=some (.int .i64 d1):=(HB2.out.1.grew hg).cell 2;exact ld_one 3 (.tmp 18) (fun w v h=>by simp[go_sem,h]) rfl (by kernel_rfl) hc ⟨by kernel_rfl,Grew.refl _⟩
      refine headG_run (by kernel_rfl) (fun w' hg=>?_) ?_
      ·go_simp;exact Grew.refl _
      refine headG_run (by kernel_rfl) (fun w' hg=>?_) ?_
      ·have hc:w'.cell? ⟨w1.heap.size,2,none⟩=some (.int .i64 d2):=(HB2.out.2.grew hg).cell 2;exact ld_one 3 (.tmp 20) (fun w v h=>by simp[go_sem,h]) rfl (by kernel_rfl) hc ⟨by kernel_rfl,Grew.refl _⟩
      refine headG_run (by kernel_rfl) (fun w' hg=>?_) ?_
      ·go_simp;exact Grew.refl _
      refine headG_run (by kernel_rfl) (fun w' hg=>?_) ?_
      ·go_simp;exact Grew.refl _
      refine headG_run (by kernel_rfl) (fun w' hg=>?_) ?_
      ·go_simp;exact Grew.refl _
      refine headG_run (by kernel_rfl) (fun w' hg=>?_) ?_
      ·go_simp;exact Grew.refl _
      refine headG_run (by kernel_rfl) (fun w' hg=>?_) ?_
      ·have hc:w'.cell? ⟨w.heap.size,3,none⟩=some (.int .i64 o1):=(HB2.out.1.grew hg).cell 3;exact ld_one 3 (.tmp 25) (fun w v h=>by simp[go_sem,h]) rfl (by kernel_rfl) hc ⟨by kernel_rfl,Grew.refl _⟩
      refine headG_run (by kernel_rfl) (fun w' hg=>?_) ?_
      ·go_simp;exact Grew.refl _
      refine headG_run (by kernel_rfl) (fun w' hg=>?_) ?_
      ·have hc:w'.cell? ⟨w1.heap.size,3,none⟩=some (.int .i64 o2):=(HB2.out.2.grew hg).cell 3;exact ld_one 3 (.tmp 27) (fun w v h=>by simp[go_sem,h]) rfl (by kernel_rfl) hc ⟨by kernel_rfl,Grew.refl _⟩
      refine headG_run (by kernel_rfl) (fun w' hg=>?_) ?_
      ·go_simp;exact Grew.refl _
      refine headG_run (by kernel_rfl) (fun w' hg=>?_) ?_
      ·go_simp;exact Grew.refl _
      refine headG_run (by kernel_rfl) (fun w' hg=>?_) ?_
      ·go_simp;exact Grew.refl _
      refine headG_run (by kernel_rfl) (fun w' hg=>?_) ?_
      ·go_simp;exact Grew.refl _
      refine headG_run (by kernel_rfl) (fun w' hg=>?_) ?_
      ·have hc:w'.cell? ⟨w.heap.size,4,none⟩=some (.int .i64 q1):=(HB2.out.1.grew hg).cell 4;exact ld_one 3 (.tmp 32) (fun w v h=>by simp[go_sem,h]) rfl (by kernel_rfl) hc ⟨by kernel_rfl,Grew.refl _⟩
      refine headG_run (by kernel_rfl) (fun w' hg=>?_) ?_
      ·go_simp;exact Grew.refl _
      refine headG_run (by kernel_rfl) (fun w' hg=>?_) ?_
      ·have hc:w'.cell? ⟨w1.heap.size,4,none⟩=some (.int .i64 q2):=(HB2.out.2.grew hg).cell 4;exact ld_one 3 (.tmp 34) (fun w v h=>by simp[go_sem,h]) rfl (by kernel_rfl) hc ⟨by kernel_rfl,Grew.refl _⟩
      refine headG_run (by kernel_rfl) (fun w' hg=>?_) ?_
      ·go_simp;exact Grew.refl _
      refine headG_run (by kernel_rfl) (fun w' hg=>?_) ?_
      ·go_simp;exact Grew.refl _
      refine headG_run (by kernel_rfl) (fun w' hg=>?_) ?_
      ·go_simp;exact Grew.refl _
      refine headG_skip (by kernel_rfl) (by kernel_rfl) ?_;refine headG_skip (by kernel_rfl) (by kernel_rfl) ?_;refine headG_skip (by kernel_rfl) (by kernel_rfl) ?_;refine headG_skip (by kernel_rfl) (by kernel_rfl) ?_;refine headG_skip (by kernel_rfl) (by kernel_rfl) ?_;refine headG_run (by kernel_rfl) (fun w' hg=>?_) ?_
      ·go_simp;exact Grew.refl _
      refine headG_run (by kernel_rfl) (fun w' hg=>?_) ?_
      ·go_simp;exact Grew.refl _
      refine headG_skip (by kernel_rfl) (by kernel_rfl) ?_;refine headG_skip (by kernel_rfl) (by kernel_rfl) ?_;refine headG_skip (by kernel_rfl) (by kernel_rfl) ?_;refine headG_skip (by kernel_rfl) (by kernel_rfl) ?_;refine headG_skip (by kernel_rfl) (by kernel_rfl) ?_;refine headG_run (by kernel_rfl) (fun w' hg=>?_) ?_
      ·go_simp;exact Grew.refl _
      refine headG_run (by kernel_rfl) (fun w' hg=>?_) ?_
      ·go_simp;exact Grew.refl _
      refine headG_skip (by kernel_rfl) (by kernel_rfl) ?_;refine headG_skip (by kernel_rfl) (by kernel_rfl) ?_;refine headG_skip (by kernel_rfl) (by kernel_rfl) ?_;refine headG_skip (by kernel_rfl) (by kernel_rfl) ?_;refine headG_skip (by kernel_rfl) (by kernel_rfl) ?_;refine headG_run (by kernel_rfl) (fun w' hg=>?_) ?_
      ·go_simp;exact Grew.refl _
      refine headG_run (by kernel_rfl) (fun w' hg=>?_) ?_
      ·go_simp;exact Grew.refl _
      refine headG_skip (by kernel_rfl) (by kernel_rfl) ?_;refine headG_skip (by kernel_rfl) (by kernel_rfl) ?_;refine headG_skip (by kernel_rfl) (by kernel_rfl) ?_;refine headG_skip (by kernel_rfl) (by kernel_rfl) ?_;refine headG_skip (by kernel_rfl) (by kernel_rfl) ?_;refine headG_run (by kernel_rfl) (fun w' hg=>?_) ?_
      ·go_simp;exact Grew.refl _
      refine headG_run (by kernel_rfl) (fun w' hg=>?_) ?_
      ·go_simp;exact Grew.refl _
      refine headG_skip (by kernel_rfl) (by kernel_rfl) ?_;refine headG_skip (by kernel_rfl) (by kernel_rfl) ?_;refine headG_skip (by kernel_rfl) (by kernel_rfl) ?_;refine headG_skip (by kernel_rfl) (by kernel_rfl) ?_;refine headG_skip (by kernel_rfl) (by kernel_rfl) ?_;refine headG_run (by kernel_rfl) (fun w' hg=>?_) ?_
      ·go_simp;exact Grew.refl _
      refine headG_run (by kernel_rfl) (fun w' hg=>?_) ?_
      ·go_simp;exact Grew.refl _
      exact headG_nil
     case sT=>
      intro w9 hg9;simp only[List.toList_toArray,List.append_eq,List.cons_append,List.nil_append,putAll,Act.put,List.setIfInBounds_toArray,List.set_cons_zero,List.set_cons_succ];go_wp2_with fail;go_ret;exact⟨by rw[HF.out];rfl,HG2.out.trans hg9⟩
    have t3:(o1==o2)=false:=by rw[beq_eq_false_iff_ne];exact h3
    have HF:=Lib.hid (show eqE (.mk k1 f1 d1 o1 q1 n1 m1 nm1 ms1 by1 ks1) (.mk k2 f2 d2 o2 q2 n2 m2 nm2 ms2 by2 ks2)=false from by rw[eqE_def,decide_eq_false (fun h=>h3 h.2.2.2.1)];rfl);clear h0 h1 h2 h3 hr7' hr8';go_enter Tryz.func9,Tryz.ntmps9;go_upto_region 1 with(first|((with_reducible refine at_box 34 (.tmp 0) rfl ?_);refine box_step 34 (.tmp 0) (cells11 (.mk k1 f1 d1 o1 q1 n1 m1 nm1 ms1 by1 ks1) (.slice Am Nm Km) (.slice Ab Nb Kb) (.slice Ak Nk Kk)) rfl rfl (by kernel_rfl) ?_;intro w1 hb1 g1 s1;have HB1:=Lib.hid hb1;have HG1:=Lib.hid g1;have HS1:=Lib.hid s1;clear hb1 g1 s1;simp only[Act.put,List.setIfInBounds_toArray,List.set_cons_zero,List.set_cons_succ])|((with_reducible refine at_box 34 (.tmp 1) rfl ?_);refine box_step 34 (.tmp 1) (cells11 (.mk k2 f2 d2 o2 q2 n2 m2 nm2 ms2 by2 ks2) (.slice Bm Pm Lm) (.slice Bb Pb Lb) (.slice Bk Pk Lk)) rfl rfl (by kernel_rfl) ?_;intro w2 hb2 g2 s2;have HB2:=Lib.hid (And.intro (HB1.out.grew g2) hb2);have HG2:=Lib.hid (HG1.out.trans g2);clear hb2 g2 s2;simp only[Act.put,List.setIfInBounds_toArray,List.set_cons_zero,List.set_cons_succ]));refine region_seqG [.pointer (some ⟨w.heap.size,0,none⟩),.int .i64 k1,.pointer (some ⟨w1.heap.size,0,none⟩),.int .i64 k2,.bool true,.bool true,.pointer (some ⟨w.heap.size,1,none⟩),.int .i64 f1,.pointer (some ⟨w1.heap.size,1,none⟩),.int .i64 f2,.bool true,.bool true,.bool true,.pointer (some ⟨w.heap.size,2,none⟩),.int .i64 d1,.pointer (some ⟨w1.heap.size,2,none⟩),.int .i64 d2,.bool true,.bool true,.bool true,.pointer (some ⟨w.heap.size,3,none⟩),.int .i64 o1,.pointer (some ⟨w1.heap.size,3,none⟩),.int .i64 o2,.bool false,.bool false,.bool false,undef,undef,undef,undef,undef,.bool false,.bool false,undef,undef,undef,undef,undef,.bool false,.bool false,undef,undef,undef,undef,undef,.bool false,.bool false,undef,undef,undef,undef,undef,.bool false,.bool false,undef,undef,undef,undef,undef,.bool false,.bool false,undef,undef,undef,undef,undef,.bool false,.bool false] _ (by kernel_rfl) (by kernel_rfl) rfl ?sH ?sT
    case sH=>
     simp only[List.toList_toArray,List.append_eq,List.cons_append,List.nil_append,putAll,Act.put,List.setIfInBounds_toArray,List.set_cons_zero,List.set_cons_succ];refine headG_run (by kernel_rfl) (fun w' hg=>?_) ?_
     ·go_simp;exact Grew.refl _
     refine headG_run (by kernel_rfl) (fun w' hg=>?_) ?_
     ·have hc:w'.cell? ⟨w.heap.size,0,none⟩=some (.int .i64 k1):=(HB2.out.1.grew hg).cell 0;exact ld_one 3 (.tmp 5) (fun w v h=>by simp[go_sem,h]) rfl (by kernel_rfl) hc ⟨by kernel_rfl,Grew.refl _⟩
     refine headG_run (by kernel_rfl) (fun w' hg=>?_) ?_
     ·go_simp;exact Grew.refl _
     refine headG_run (by kernel_rfl) (fun w' hg=>?_) ?_
     ·have hc:w'.cell? ⟨w1.heap.size,0,none⟩=some (.int .i64 k2):=(HB2.out.2.grew hg).cell 0;exact ld_one 3 (.tmp 7) (fun w v h=>by simp[go_sem,h]) rfl (by kernel_rfl) hc ⟨by kernel_rfl,Grew.refl _⟩
     refine headG_run (by kernel_rfl) (fun w' hg=>?_) ?_
     ·go_simp;exact Grew.refl _
     refine headG_run (by kernel_rfl) (fun w' hg=>?_) ?_
     ·go_simp;exact Grew.refl _
     refine headG_run (by kernel_rfl) (fun w' hg=>?_) ?_
     ·go_simp;exact Grew.refl _
     refine headG_run (by kernel_rfl) (fun w' hg=>?_) ?_
     ·have hc:w'.cell? ⟨w.heap.size,1,none⟩=some (.int .i64 f1):=(HB2.out.1.grew hg).cell 1;exact ld_one 3 (.tmp 11) (fun w v h=>by simp[go_sem,h]) rfl (by kernel_rfl) hc ⟨by kernel_rfl,Grew.refl _⟩
     refine headG_run (by kernel_rfl) (fun w' hg=>?_) ?_
     ·go_simp;exact Grew.refl _
     refine headG_run (by kernel_rfl) (fun w' hg=>?_) ?_
     ·have hc:w'.cell? ⟨w1.heap.size,1,none⟩=some (.int .i64 f2):=(HB2.out.2.grew hg).cell 1;exact ld_one 3 (.tmp 13) (fun w v h=>by simp[go_sem,h]) rfl (by kernel_rfl) hc ⟨by kernel_rfl,Grew.refl _⟩
     refine headG_run (by kernel_rfl) (fun w' hg=>?_) ?_
     ·go_simp;exact Grew.refl _
     refine headG_run (by kernel_rfl) (fun w' hg=>?_) ?_
     ·go_simp;exact Grew.refl _
     refine headG_run (by kernel_rfl) (fun w' hg=>?_) ?_
     ·go_simp;exact Grew.refl _
     refine headG_run (by kernel_rfl) (fun w' hg=>?_) ?_
     ·go_simp;exact Grew.refl _
     refine headG_run (by kernel_rfl) (fun w' hg=>?_) ?_
     ·have hc:w'.cell? ⟨w.heap.size,2,none⟩=some (.int .i64 d1):=(HB2.out.1.grew hg).cell 2;exact ld_one 3 (.tmp 18) (fun w v h=>by simp[go_sem,h]) rfl (by kernel_rfl) hc ⟨by kernel_rfl,Grew.refl _⟩
     refine headG_run (by kernel_rfl) (fun w' hg=>?_) ?_
     ·go_simp;exact Grew.refl _
     refine headG_run (by kernel_rfl) (fun w' hg=>?_) ?_
     ·have hc:w'.cell? ⟨w1.heap.size,2,none⟩=some (.int .i64 d2):=(HB2.out.2.grew hg).cell 2;exact ld_one 3 (.tmp 20) (fun w v h=>by simp[go_sem,h]) rfl (by kernel_rfl) hc ⟨by kernel_rfl,Grew.refl _⟩
     refine headG_run (by kernel_rfl) (fun w' hg=>?_) ?_
     ·go_simp;exact Grew.refl _
     refine headG_run (by kernel_rfl) (fun w' hg=>?_) ?_
     ·go_simp;exact Grew.refl _
     refine headG_run (by kernel_rfl) (fun w' hg=>?_) ?_
     ·go_simp;exact Grew.refl _
     refine headG_run (by kernel_rfl) (fun w' hg=>?_) ?_
     ·go_simp;exact Grew.refl _
     refine headG_run (by kernel_rfl) (fun w' hg=>?_) ?_
     ·have hc:w'.cell? ⟨w.heap.size,3,none⟩=some (.int .i64 o1):=(HB2.out.1.grew hg).cell 3;exact ld_one 3 (.tmp 25) (fun w v h=>by simp[go_sem,h]) rfl (by kernel_rfl) hc ⟨by kernel_rfl,Grew.refl _⟩
     refine headG_run (by kernel_rfl) (fun w' hg=>?_) ?_
     ·go_simp;exact Grew.refl _
     refine headG_run (by kernel_rfl) (fun w' hg=>?_) ?_
     ·have hc:w'.cell? ⟨w1.heap.size,3,none⟩=some (.int .i64 o2):=(HB2.out.2.grew hg).cell 3;exact ld_one 3 (.tmp 27) (fun w v h=>by simp[go_sem,h]) rfl (by kernel_rfl) hc ⟨by kernel_rfl,Grew.refl _⟩
     refine headG_run (by kernel_rfl) (fun w' hg=>?_) ?_
     ·go_simp;exact Grew.refl _
     refine headG_run (by kernel_rfl) (fun w' hg=>?_) ?_
     ·go_simp;exact Grew.refl _
     refine headG_run (by kernel_rfl) (fun w' hg=>?_) ?_
     ·go_simp;exact Grew.refl _
     refine headG_skip (by kernel_rfl) (by kernel_rfl) ?_;refine headG_skip (by kernel_rfl) (by kernel_rfl) ?_;refine headG_skip (by kernel_rfl) (by kernel_rfl) ?_;refine headG_skip (by kernel_rfl) (by kernel_rfl) ?_;refine headG_skip (by kernel_rfl) (by kernel_rfl) ?_;refine headG_run (by kernel_rfl) (fun w' hg=>?_) ?_
     ·go_simp;exact Grew.refl _
     refine headG_run (by kernel_rfl) (fun w' hg=>?_) ?_
     ·go_simp;exact Grew.refl _
     refine headG_skip (by kernel_rfl) (by kernel_rfl) ?_;refine headG_skip (by kernel_rfl) (by kernel_rfl) ?_;refine headG_skip (by kernel_rfl) (by kernel_rfl) ?_;refine headG_skip (by kernel_rfl) (by kernel_rfl) ?_;refine headG_skip (by kernel_rfl) (by kernel_rfl) ?_;refine headG_run (by kernel_rfl) (fun w' hg=>?_) ?_
     ·go_simp;exact Grew.refl _
     refine headG_run (by kernel_rfl) (fun w' hg=>?_) ?_
     ·go_simp;exact Grew.refl _
     refine headG_skip (by kernel_rfl) (by kernel_rfl) ?_;refine headG_skip (by kernel_rfl) (by kernel_rfl) ?_;refine headG_skip (by kernel_rfl) (by kernel_rfl) ?_;refine headG_skip (by kernel_rfl) (by kernel_rfl) ?_;refine headG_skip (by kernel_rfl) (by kernel_rfl) ?_;refine headG_run (by kernel_rfl) (fun w' hg=>?_) ?_
     ·go_simp;exact Grew.refl _
     refine headG_run (by kernel_rfl) (fun w' hg=>?_) ?_
     ·go_simp;exact Grew.refl _
     refine headG_skip (by kernel_rfl) (by kernel_rfl) ?_;refine headG_skip (by kernel_rfl) (by kernel_rfl) ?_;refine headG_skip (by kernel_rfl) (by kernel_rfl) ?_;refine headG_skip (by kernel_rfl) (by kernel_rfl) ?_;refine headG_skip (by kernel_rfl) (by kernel_rfl) ?_;refine headG_run (by kernel_rfl) (fun w' hg=>?_) ?_
     ·go_simp;exact Grew.refl _
     refine headG_run (by kernel_rfl) (fun w' hg=>?_) ?_
     ·go_simp;exact Grew.refl _
     refine headG_skip (by kernel_rfl) (by kernel_rfl) ?_;refine headG_skip (by kernel_rfl) (by kernel_rfl) ?_;refine headG_skip (by kernel_rfl) (by kernel_rfl) ?_;refine headG_skip (by kernel_rfl) (by kernel_rfl) ?_;refine headG_skip (by kernel_rfl) (by kernel_rfl) ?_;refine headG_run (by kernel_rfl) (fun w' hg=>?_) ?_
     ·go_simp;exact Grew.refl _
     refine headG_run (by kernel_rfl) (fun w' hg=>?_) ?_
     ·go_simp;exact Grew.refl _
     refine headG_skip (by kernel_rfl) (by kernel_rfl) ?_;refine headG_skip (by kernel_rfl) (by kernel_rfl) ?_;refine headG_skip (by kernel_rfl) (by kernel_rfl) ?_;refine headG_skip (by kernel_rfl) (by kernel_rfl) ?_;refine headG_skip (by kernel_rfl) (by kernel_rfl) ?_;refine headG_run (by kernel_rfl) (fun w' hg=>?_) ?_
     ·go_simp;exact Grew.refl _
     refine headG_run (by kernel_rfl) (fun w' hg=>?_) ?_
     ·go_simp;exact Grew.refl _
     exact headG_nil
    case sT=>
     intro w9 hg9;simp only[List.toList_toArray,List.append_eq,List.cons_append,List.nil_append,putAll,Act.put,List.setIfInBounds_toArray,List.set_cons_zero,List.set_cons_succ];go_wp2_with fail;go_ret;exact⟨by rw[HF.out];rfl,HG2.out.trans hg9⟩
   have t2:(d1==d2)=false:=by rw[beq_eq_false_iff_ne];exact h2
   have HF:=Lib.hid (show eqE (.mk k1 f1 d1 o1 q1 n1 m1 nm1 ms1 by1 ks1) (.mk k2 f2 d2 o2 q2 n2 m2 nm2 ms2 by2 ks2)=false from by rw[eqE_def,decide_eq_false (fun h=>h2 h.2.2.1)];rfl);clear h0 h1 h2 hr7' hr8';go_enter Tryz.func9,Tryz.ntmps9;go_upto_region 1 with(first|((with_reducible refine at_box 34 (.tmp 0) rfl ?_);refine box_step 34 (.tmp 0) (cells11 (.mk k1 f1 d1 o1 q1 n1 m1 nm1 ms1 by1 ks1) (.slice Am Nm Km) (.slice Ab Nb Kb) (.slice Ak Nk Kk)) rfl rfl (by kernel_rfl) ?_;intro w1 hb1 g1 s1;have HB1:=Lib.hid hb1;have HG1:=Lib.hid g1;have HS1:=Lib.hid s1;clear hb1 g1 s1;simp only[Act.put,List.setIfInBounds_toArray,List.set_cons_zero,List.set_cons_succ])|((with_reducible refine at_box 34 (.tmp 1) rfl ?_);refine box_step 34 (.tmp 1) (cells11 (.mk k2 f2 d2 o2 q2 n2 m2 nm2 ms2 by2 ks2) (.slice Bm Pm Lm) (.slice Bb Pb Lb) (.slice Bk Pk Lk)) rfl rfl (by kernel_rfl) ?_;intro w2 hb2 g2 s2;have HB2:=Lib.hid (And.intro (HB1.out.grew g2) hb2);have HG2:=Lib.hid (HG1.out.trans g2);clear hb2 g2 s2;simp only[Act.put,List.setIfInBounds_toArray,List.set_cons_zero,List.set_cons_succ]));refine region_seqG [.pointer (some ⟨w.heap.size,0,none⟩),.int .i64 k1,.pointer (some ⟨w1.heap.size,0,none⟩),.int .i64 k2,.bool true,.bool true,.pointer (some ⟨w.heap.size,1,none⟩),.int .i64 f1,.pointer (some ⟨w1.heap.size,1,none⟩),.int .i64 f2,.bool true,.bool true,.bool true,.pointer (some ⟨w.heap.size,2,none⟩),.int .i64 d1,.pointer (some ⟨w1.heap.size,2,none⟩),.int .i64 d2,.bool false,.bool false,.bool false,undef,undef,undef,undef,undef,.bool false,.bool false,undef,undef,undef,undef,undef,.bool false,.bool false,undef,undef,undef,undef,undef,.bool false,.bool false,undef,undef,undef,undef,undef,.bool false,.bool false,undef,undef,undef,undef,undef,.bool false,.bool false,undef,undef,undef,undef,undef,.bool false,.bool false,undef,undef,undef,undef,undef,.bool false,.bool false] _ (by kernel_rfl) (by kernel_rfl) rfl ?sH ?sT
   case sH=>
    simp only[List.toList_toArray,List.append_eq,List.cons_append,List.nil_append,putAll,Act.put,List.setIfInBounds_toArray,List.set_cons_zero,List.set_cons_succ];refine headG_run (by kernel_rfl) (fun w' hg=>?_) ?_
    ·go_simp;exact Grew.refl _
    refine headG_run (by kernel_rfl) (fun w' hg=>?_) ?_
    ·have hc:w'.cell? ⟨w.heap.size,0,none⟩=some (.int .i64 k1):=(HB2.out.1.grew hg).cell 0;exact ld_one 3 (.tmp 5) (fun w v h=>by simp[go_sem,h]) rfl (by kernel_rfl) hc ⟨by kernel_rfl,Grew.refl _⟩
    refine headG_run (by kernel_rfl) (fun w' hg=>?_) ?_
    ·go_simp;exact Grew.refl _
    refine headG_run (by kernel_rfl) (fun w' hg=>?_) ?_
    ·have hc:w'.cell? ⟨w1.heap.size,0,none⟩=some (.int .i64 k2):=(HB2.out.2.grew hg).cell 0;exact ld_one 3 (.tmp 7) (fun w v h=>by simp[go_sem,h]) rfl (by kernel_rfl) hc ⟨by kernel_rfl,Grew.refl _⟩
    refine headG_run (by kernel_rfl) (fun w' hg=>?_) ?_
    ·go_simp;exact Grew.refl _
    refine headG_run (by kernel_rfl) (fun w' hg=>?_) ?_
    ·go_simp;exact Grew.refl _
    refine headG_run (by kernel_rfl) (fun w' hg=>?_) ?_
    ·go_simp;exact Grew.refl _
    refine headG_run (by kernel_rfl) (fun w' hg=>?_) ?_
    ·have hc:w'.cell? ⟨w.heap.size,1,none⟩=some (.int .i64 f1):=(HB2.out.1.grew hg).cell 1;exact ld_one 3 (.tmp 11) (fun w v h=>by simp[go_sem,h]) rfl (by kernel_rfl) hc ⟨by kernel_rfl,Grew.refl _⟩
    refine headG_run (by kernel_rfl) (fun w' hg=>?_) ?_
    ·go_simp;exact Grew.refl _
    refine headG_run (by kernel_rfl) (fun w' hg=>?_) ?_
    ·have hc:w'.cell? ⟨w1.heap.size,1,none⟩=some (.int .i64 f2):=(HB2.out.2.grew hg).cell 1;exact ld_one 3 (.tmp 13) (fun w v h=>by simp[go_sem,h]) rfl (by kernel_rfl) hc ⟨by kernel_rfl,Grew.refl _⟩
    refine headG_run (by kernel_rfl) (fun w' hg=>?_) ?_
    ·go_simp;exact Grew.refl _
    refine headG_run (by kernel_rfl) (fun w' hg=>?_) ?_
    ·go_simp;exact Grew.refl _
    refine headG_run (by kernel_rfl) (fun w' hg=>?_) ?_
    ·go_simp;exact Grew.refl _
    refine headG_run (by kernel_rfl) (fun w' hg=>?_) ?_
    ·go_simp;exact Grew.refl _
    refine headG_run (by kernel_rfl) (fun w' hg=>?_) ?_
    ·have hc:w'.cell? ⟨w.heap.size,2,none⟩=some (.int .i64 d1):=(HB2.out.1.grew hg).cell 2;exact ld_one 3 (.tmp 18) (fun w v h=>by simp[go_sem,h]) rfl (by kernel_rfl) hc ⟨by kernel_rfl,Grew.refl _⟩
    refine headG_run (by kernel_rfl) (fun w' hg=>?_) ?_
    ·go_simp;exact Grew.refl _
    refine headG_run (by kernel_rfl) (fun w' hg=>?_) ?_
    ·have hc:w'.cell? ⟨w1.heap.size,2,none⟩=some (.int .i64 d2):=(HB2.out.2.grew hg).cell 2;exact ld_one 3 (.tmp 20) (fun w v h=>by simp[go_sem,h]) rfl (by kernel_rfl) hc ⟨by kernel_rfl,Grew.refl _⟩
    refine headG_run (by kernel_rfl) (fun w' hg=>?_) ?_
    ·go_simp;exact Grew.refl _
    refine headG_run (by kernel_rfl) (fun w' hg=>?_) ?_
    ·go_simp;exact Grew.refl _
    refine headG_run (by kernel_rfl) (fun w' hg=>?_) ?_
    ·go_simp;exact Grew.refl _
    refine headG_skip (by kernel_rfl) (by kernel_rfl) ?_;refine headG_skip (by kernel_rfl) (by kernel_rfl) ?_;refine headG_skip (by kernel_rfl) (by kernel_rfl) ?_;refine headG_skip (by kernel_rfl) (by kernel_rfl) ?_;refine headG_skip (by kernel_rfl) (by kernel_rfl) ?_;refine headG_run (by kernel_rfl) (fun w' hg=>?_) ?_
    ·go_simp;exact Grew.refl _
    refine headG_run (by kernel_rfl) (fun w' hg=>?_) ?_
    ·go_simp;exact Grew.refl _
    refine headG_skip (by kernel_rfl) (by kernel_rfl) ?_;refine headG_skip (by kernel_rfl) (by kernel_rfl) ?_;refine headG_skip (by kernel_rfl) (by kernel_rfl) ?_;refine headG_skip (by kernel_rfl) (by kernel_rfl) ?_;refine headG_skip (by kernel_rfl) (by kernel_rfl) ?_;refine headG_run (by kernel_rfl) (fun w' hg=>?_) ?_
    ·go_simp;exact Grew.refl _
    refine headG_run (by kernel_rfl) (fun w' hg=>?_) ?_
    ·go_simp;exact Grew.refl _
    refine headG_skip (by kernel_rfl) (by kernel_rfl) ?_;refine headG_skip (by kernel_rfl) (by kernel_rfl) ?_;refine headG_skip (by kernel_rfl) (by kernel_rfl) ?_;refine headG_skip (by kernel_rfl) (by kernel_rfl) ?_;refine headG_skip (by kernel_rfl) (by kernel_rfl) ?_;refine headG_run (by kernel_rfl) (fun w' hg=>?_) ?_
    ·go_simp;exact Grew.refl _
    refine headG_run (by kernel_rfl) (fun w' hg=>?_) ?_
    ·go_simp;exact Grew.refl _
    refine headG_skip (by kernel_rfl) (by kernel_rfl) ?_;refine headG_skip (by kernel_rfl) (by kernel_rfl) ?_;refine headG_skip (by kernel_rfl) (by kernel_rfl) ?_;refine headG_skip (by kernel_rfl) (by kernel_rfl) ?_;refine headG_skip (by kernel_rfl) (by kernel_rfl) ?_;refine headG_run (by kernel_rfl) (fun w' hg=>?_) ?_
    ·go_simp;exact Grew.refl _
    refine headG_run (by kernel_rfl) (fun w' hg=>?_) ?_
    ·go_simp;exact Grew.refl _
    refine headG_skip (by kernel_rfl) (by kernel_rfl) ?_;refine headG_skip (by kernel_rfl) (by kernel_rfl) ?_;refine headG_skip (by kernel_rfl) (by kernel_rfl) ?_;refine headG_skip (by kernel_rfl) (by kernel_rfl) ?_;refine headG_skip (by kernel_rfl) (by kernel_rfl) ?_;refine headG_run (by kernel_rfl) (fun w' hg=>?_) ?_
    ·go_simp;exact Grew.refl _
    refine headG_run (by kernel_rfl) (fun w' hg=>?_) ?_
    ·go_simp;exact Grew.refl _
    refine headG_skip (by kernel_rfl) (by kernel_rfl) ?_;refine headG_skip (by kernel_rfl) (by kernel_rfl) ?_;refine headG_skip (by kernel_rfl) (by kernel_rfl) ?_;refine headG_skip (by kernel_rfl) (by kernel_rfl) ?_;refine headG_skip (by kernel_rfl) (by kernel_rfl) ?_;refine headG_run (by kernel_rfl) (fun w' hg=>?_) ?_
    ·go_simp;exact Grew.refl _
    refine headG_run (by kernel_rfl) (fun w' hg=>?_) ?_
    ·go_simp;exact Grew.refl _
    refine headG_skip (by kernel_rfl) (by kernel_rfl) ?_;refine headG_skip (by kernel_rfl) (by kernel_rfl) ?_;refine headG_skip (by kernel_rfl) (by kernel_rfl) ?_;refine headG_skip (by kernel_rfl) (by kernel_rfl) ?_;refine headG_skip (by kernel_rfl) (by kernel_rfl) ?_;refine headG_run (by kernel_rfl) (fun w' hg=>?_) ?_
    ·go_simp;exact Grew.refl _
    refine headG_run (by kernel_rfl) (fun w' hg=>?_) ?_
    ·go_simp;exact Grew.refl _
    exact headG_nil
   case sT=>
    intro w9 hg9;simp only[List.toList_toArray,List.append_eq,List.cons_append,List.nil_append,putAll,Act.put,List.setIfInBounds_toArray,List.set_cons_zero,List.set_cons_succ];go_wp2_with fail;go_ret;exact⟨by rw[HF.out];rfl,HG2.out.trans hg9⟩
  have t1:(f1==f2)=false:=by rw[beq_eq_false_iff_ne];exact h1
  have HF:=Lib.hid (show eqE (.mk k1 f1 d1 o1 q1 n1 m1 nm1 ms1 by1 ks1) (.mk k2 f2 d2 o2 q2 n2 m2 nm2 ms2 by2 ks2)=false from by rw[eqE_def,decide_eq_false (fun h=>h1 h.2.1)];rfl);clear h0 h1 hr7' hr8';go_enter Tryz.func9,Tryz.ntmps9;go_upto_region 1 with(first|((with_reducible refine at_box 34 (.tmp 0) rfl ?_);refine box_step 34 (.tmp 0) (cells11 (.mk k1 f1 d1 o1 q1 n1 m1 nm1 ms1 by1 ks1) (.slice Am Nm Km) (.slice Ab Nb Kb) (.slice Ak Nk Kk)) rfl rfl (by kernel_rfl) ?_;intro w1 hb1 g1 s1;have HB1:=Lib.hid hb1;have HG1:=Lib.hid g1;have HS1:=Lib.hid s1;clear hb1 g1 s1;simp only[Act.put,List.setIfInBounds_toArray,List.set_cons_zero,List.set_cons_succ])|((with_reducible refine at_box 34 (.tmp 1) rfl ?_);refine box_step 34 (.tmp 1) (cells11 (.mk k2 f2 d2 o2 q2 n2 m2 nm2 ms2 by2 ks2) (.slice Bm Pm Lm) (.slice Bb Pb Lb) (.slice Bk Pk Lk)) rfl rfl (by kernel_rfl) ?_;intro w2 hb2 g2 s2;have HB2:=Lib.hid (And.intro (HB1.out.grew g2) hb2);have HG2:=Lib.hid (HG1.out.trans g2);clear hb2 g2 s2;simp only[Act.put,List.setIfInBounds_toArray,List.set_cons_zero,List.set_cons_succ]));refine region_seqG [.pointer (some ⟨w.heap.size,0,none⟩),.int .i64 k1,.pointer (some ⟨w1.heap.size,0,none⟩),.int .i64 k2,.bool true,.bool true,.pointer (some ⟨w.heap.size,1,none⟩),.int .i64 f1,.pointer (some ⟨w1.heap.size,1,none⟩),.int .i64 f2,.bool false,.bool false,.bool false,undef,undef,undef,undef,undef,.bool false,.bool false,undef,undef,undef,undef,undef,.bool false,.bool false,undef,undef,undef,undef,undef,.bool false,.bool false,undef,undef,undef,undef,undef,.bool false,.bool false,undef,undef,undef,undef,undef,.bool false,.bool false,undef,undef,undef,undef,undef,.bool false,.bool false,undef,undef,undef,undef,undef,.bool false,.bool false,undef,undef,undef,undef,undef,.bool false,.bool false] _ (by kernel_rfl) (by kernel_rfl) rfl ?sH ?sT
  case sH=>
   simp only[List.toList_toArray,List.append_eq,List.cons_append,List.nil_append,putAll,Act.put,List.setIfInBounds_toArray,List.set_cons_zero,List.set_cons_succ];refine headG_run (by kernel_rfl) (fun w' hg=>?_) ?_
   ·go_simp;exact Grew.refl _
   refine headG_run (by kernel_rfl) (fun w' hg=>?_) ?_
   ·have hc:w'.cell? ⟨w.heap.size,0,none⟩=some (.int .i64 k1):=(HB2.out.1.grew hg).cell 0;exact ld_one 3 (.tmp 5) (fun w v h=>by simp[go_sem,h]) rfl (by kernel_rfl) hc ⟨by kernel_rfl,Grew.refl _⟩
   refine headG_run (by kernel_rfl) (fun w' hg=>?_) ?_
   ·go_simp;exact Grew.refl _
   refine headG_run (by kernel_rfl) (fun w' hg=>?_) ?_
   ·have hc:w'.cell? ⟨w1.heap.size,0,none⟩=some (.int .i64 k2):=(HB2.out.2.grew hg).cell 0;exact ld_one 3 (.tmp 7) (fun w v h=>by simp[go_sem,h]) rfl (by kernel_rfl) hc ⟨by kernel_rfl,Grew.refl _⟩
   refine headG_run (by kernel_rfl) (fun w' hg=>?_) ?_
   ·go_simp;exact Grew.refl _
   refine headG_run (by kernel_rfl) (fun w' hg=>?_) ?_
   ·go_simp;exact Grew.refl _
   refine headG_run (by kernel_rfl) (fun w' hg=>?_) ?_
   ·go_simp;exact Grew.refl _
   refine headG_run (by kernel_rfl) (fun w' hg=>?_) ?_
   ·have hc:w'.cell? ⟨w.heap.size,1,none⟩=some (.int .i64 f1):=(HB2.out.1.grew hg).cell 1;exact ld_one 3 (.tmp 11) (fun w v h=>by simp[go_sem,h]) rfl (by kernel_rfl) hc ⟨by kernel_rfl,Grew.refl _⟩
   refine headG_run (by kernel_rfl) (fun w' hg=>?_) ?_
   ·go_simp;exact Grew.refl _
   refine headG_run (by kernel_rfl) (fun w' hg=>?_) ?_
   ·have hc:w'.cell? ⟨w1.heap.size,1,none⟩=some (.int .i64 f2):=(HB2.out.2.grew hg).cell 1;exact ld_one 3 (.tmp 13) (fun w v h=>by simp[go_sem,h]) rfl (by kernel_rfl) hc ⟨by kernel_rfl,Grew.refl _⟩
   refine headG_run (by kernel_rfl) (fun w' hg=>?_) ?_
   ·go_simp;exact Grew.refl _
   refine headG_run (by kernel_rfl) (fun w' hg=>?_) ?_
   ·go_simp;exact Grew.refl _
   refine headG_run (by kernel_rfl) (fun w' hg=>?_) ?_
   ·go_simp;exact Grew.refl _
   refine headG_skip (by kernel_rfl) (by kernel_rfl) ?_;refine headG_skip (by kernel_rfl) (by kernel_rfl) ?_;refine headG_skip (by kernel_rfl) (by kernel_rfl) ?_;refine headG_skip (by kernel_rfl) (by kernel_rfl) ?_;refine headG_skip (by kernel_rfl) (by kernel_rfl) ?_;refine headG_run (by kernel_rfl) (fun w' hg=>?_) ?_
   ·go_simp;exact Grew.refl _
   refine headG_run (by kernel_rfl) (fun w' hg=>?_) ?_
   ·go_simp;exact Grew.refl _
   refine headG_skip (by kernel_rfl) (by kernel_rfl) ?_;refine headG_skip (by kernel_rfl) (by kernel_rfl) ?_;refine headG_skip (by kernel_rfl) (by kernel_rfl) ?_;refine headG_skip (by kernel_rfl) (by kernel_rfl) ?_;refine headG_skip (by kernel_rfl) (by kernel_rfl) ?_;refine headG_run (by kernel_rfl) (fun w' hg=>?_) ?_
   ·go_simp;exact Grew.refl _
   refine headG_run (by kernel_rfl) (fun w' hg=>?_) ?_
   ·go_simp;exact Grew.refl _
   refine headG_skip (by kernel_rfl) (by kernel_rfl) ?_;refine headG_skip (by kernel_rfl) (by kernel_rfl) ?_;refine headG_skip (by kernel_rfl) (by kernel_rfl) ?_;refine headG_skip (by kernel_rfl) (by kernel_rfl) ?_;refine headG_skip (by kernel_rfl) (by kernel_rfl) ?_;refine headG_run (by kernel_rfl) (fun w' hg=>?_) ?_
   ·go_simp;exact Grew.refl _
   refine headG_run (by kernel_rfl) (fun w' hg=>?_) ?_
   ·go_simp;exact Grew.refl _
   refine headG_skip (by kernel_rfl) (by kernel_rfl) ?_;refine headG_skip (by kernel_rfl) (by kernel_rfl) ?_;refine headG_skip (by kernel_rfl) (by kernel_rfl) ?_;refine headG_skip (by kernel_rfl) (by kernel_rfl) ?_;refine headG_skip (by kernel_rfl) (by kernel_rfl) ?_;refine headG_run (by kernel_rfl) (fun w' hg=>?_) ?_
   ·go_simp;exact Grew.refl _
   refine headG_run (by kernel_rfl) (fun w' hg=>?_) ?_
   ·go_simp;exact Grew.refl _
   refine headG_skip (by kernel_rfl) (by kernel_rfl) ?_;refine headG_skip (by kernel_rfl) (by kernel_rfl) ?_;refine headG_skip (by kernel_rfl) (by kernel_rfl) ?_;refine headG_skip (by kernel_rfl) (by kernel_rfl) ?_;refine headG_skip (by kernel_rfl) (by kernel_rfl) ?_;refine headG_run (by kernel_rfl) (fun w' hg=>?_) ?_
   ·go_simp;exact Grew.refl _
   refine headG_run (by kernel_rfl) (fun w' hg=>?_) ?_
   ·go_simp;exact Grew.refl _
   refine headG_skip (by kernel_rfl) (by kernel_rfl) ?_;refine headG_skip (by kernel_rfl) (by kernel_rfl) ?_;refine headG_skip (by kernel_rfl) (by kernel_rfl) ?_;refine headG_skip (by kernel_rfl) (by kernel_rfl) ?_;refine headG_skip (by kernel_rfl) (by kernel_rfl) ?_;refine headG_run (by kernel_rfl) (fun w' hg=>?_) ?_
   ·go_simp;exact Grew.refl _
   refine headG_run (by kernel_rfl) (fun w' hg=>?_) ?_
   ·go_simp;exact Grew.refl _
   refine headG_skip (by kernel_rfl) (by kernel_rfl) ?_;refine headG_skip (by kernel_rfl) (by kernel_rfl) ?_;refine headG_skip (by kernel_rfl) (by kernel_rfl) ?_;refine headG_skip (by kernel_rfl) (by kernel_rfl) ?_;refine headG_skip (by kernel_rfl) (by kernel_rfl) ?_;refine headG_run (by kernel_rfl) (fun w' hg=>?_) ?_
   ·go_simp;exact Grew.refl _
   refine headG_run (by kernel_rfl) (fun w' hg=>?_) ?_
   ·go_simp;exact Grew.refl _
   refine headG_skip (by kernel_rfl) (by kernel_rfl) ?_;refine headG_skip (by kernel_rfl) (by kernel_rfl) ?_;refine headG_skip (by kernel_rfl) (by kernel_rfl) ?_;refine headG_skip (by kernel_rfl) (by kernel_rfl) ?_;refine headG_skip (by kernel_rfl) (by kernel_rfl) ?_;refine headG_run (by kernel_rfl) (fun w' hg=>?_) ?_
   ·go_simp;exact Grew.refl _
   refine headG_run (by kernel_rfl) (fun w' hg=>?_) ?_
   ·go_simp;exact Grew.refl _
   exact headG_nil
  case sT=>
   intro w9 hg9;simp only[List.toList_toArray,List.append_eq,List.cons_append,List.nil_append,putAll,Act.put,List.setIfInBounds_toArray,List.set_cons_zero,List.set_cons_succ];go_wp2_with fail;go_ret;exact⟨by rw[HF.out];rfl,HG2.out.trans hg9⟩
 have t0:(k1==k2)=false:=by rw[beq_eq_false_iff_ne];exact h0
 have HF:=Lib.hid (show eqE (.mk k1 f1 d1 o1 q1 n1 m1 nm1 ms1 by1 ks1) (.mk k2 f2 d2 o2 q2 n2 m2 nm2 ms2 by2 ks2)=false from by rw[eqE_def,decide_eq_false (fun h=>h0 h.1)];rfl);clear h0 hr7' hr8';go_enter Tryz.func9,Tryz.ntmps9;go_upto_region 1 with(first|((with_reducible refine at_box 34 (.tmp 0) rfl ?_);refine box_step 34 (.tmp 0) (cells11 (.mk k1 f1 d1 o1 q1 n1 m1 nm1 ms1 by1 ks1) (.slice Am Nm Km) (.slice Ab Nb Kb) (.slice Ak Nk Kk)) rfl rfl (by kernel_rfl) ?_;intro w1 hb1 g1 s1;have HB1:=Lib.hid hb1;have HG1:=Lib.hid g1;have HS1:=Lib.hid s1;clear hb1 g1 s1;simp only[Act.put,List.setIfInBounds_toArray,List.set_cons_zero,List.set_cons_succ])|((with_reducible refine at_box 34 (.tmp 1) rfl ?_);refine box_step 34 (.tmp 1) (cells11 (.mk k2 f2 d2 o2 q2 n2 m2 nm2 ms2 by2 ks2) (.slice Bm Pm Lm) (.slice Bb Pb Lb) (.slice Bk Pk Lk)) rfl rfl (by kernel_rfl) ?_;intro w2 hb2 g2 s2;have HB2:=Lib.hid (And.intro (HB1.out.grew g2) hb2);have HG2:=Lib.hid (HG1.out.trans g2);clear hb2 g2 s2;simp only[Act.put,List.setIfInBounds_toArray,List.set_cons_zero,List.set_cons_succ]));refine region_seqG [.pointer (some ⟨w.heap.size,0,none⟩),.int .i64 k1,.pointer (some ⟨w1.heap.size,0,none⟩),.int .i64 k2,.bool false,.bool false,undef,undef,undef,undef,undef,.bool false,.bool false,undef,undef,undef,undef,undef,.bool false,.bool false,undef,undef,undef,undef,undef,.bool false,.bool false,undef,undef,undef,undef,undef,.bool false,.bool false,undef,undef,undef,undef,undef,.bool false,.bool false,undef,undef,undef,undef,undef,.bool false,.bool false,undef,undef,undef,undef,undef,.bool false,.bool false,undef,undef,undef,undef,undef,.bool false,.bool false,undef,undef,undef,undef,undef,.bool false,.bool false] _ (by kernel_rfl) (by kernel_rfl) rfl ?sH ?sT
 case sH=>
  simp only[List.toList_toArray,List.append_eq,List.cons_append,List.nil_append,putAll,Act.put,List.setIfInBounds_toArray,List.set_cons_zero,List.set_cons_succ];refine headG_run (by kernel_rfl) (fun w' hg=>?_) ?_
  ·go_simp;exact Grew.refl _
  refine headG_run (by kernel_rfl) (fun w' hg=>?_) ?_
  ·have hc:w'.cell? ⟨w.heap.size,0,none⟩=some (.int .i64 k1):=(HB2.out.1.grew hg).cell 0;exact ld_one 3 (.tmp 5) (fun w v h=>by simp[go_sem,h]) rfl (by kernel_rfl) hc ⟨by kernel_rfl,Grew.refl _⟩
  refine headG_run (by kernel_rfl) (fun w' hg=>?_) ?_
  ·go_simp;exact Grew.refl _
  refine headG_run (by kernel_rfl) (fun w' hg=>?_) ?_
  ·have hc:w'.cell? ⟨w1.heap.size,0,none⟩=some (.int .i64 k2):=(HB2.out.2.grew hg).cell 0;exact ld_one 3 (.tmp 7) (fun w v h=>by simp[go_sem,h]) rfl (by kernel_rfl) hc ⟨by kernel_rfl,Grew.refl _⟩
  refine headG_run (by kernel_rfl) (fun w' hg=>?_) ?_
  ·go_simp;exact Grew.refl _
  refine headG_run (by kernel_rfl) (fun w' hg=>?_) ?_
  ·go_simp;exact Grew.refl _
  refine headG_skip (by kernel_rfl) (by kernel_rfl) ?_;refine headG_skip (by kernel_rfl) (by kernel_rfl) ?_;refine headG_skip (by kernel_rfl) (by kernel_rfl) ?_;refine headG_skip (by kernel_rfl) (by kernel_rfl) ?_;refine headG_skip (by kernel_rfl) (by kernel_rfl) ?_;refine headG_run (by kernel_rfl) (fun w' hg=>?_) ?_
  ·go_simp;exact Grew.refl _
  refine headG_run (by kernel_rfl) (fun w' hg=>?_) ?_
  ·go_simp;exact Grew.refl _
  refine headG_skip (by kernel_rfl) (by kernel_rfl) ?_;refine headG_skip (by kernel_rfl) (by kernel_rfl) ?_;refine headG_skip (by kernel_rfl) (by kernel_rfl) ?_;refine headG_skip (by kernel_rfl) (by kernel_rfl) ?_;refine headG_skip (by kernel_rfl) (by kernel_rfl) ?_;refine headG_run (by kernel_rfl) (fun w' hg=>?_) ?_
  ·go_simp;exact Grew.refl _
  refine headG_run (by kernel_rfl) (fun w' hg=>?_) ?_
  ·go_simp;exact Grew.refl _
  refine headG_skip (by kernel_rfl) (by kernel_rfl) ?_;refine headG_skip (by kernel_rfl) (by kernel_rfl) ?_;refine headG_skip (by kernel_rfl) (by kernel_rfl) ?_;refine headG_skip (by kernel_rfl) (by kernel_rfl) ?_;refine headG_skip (by kernel_rfl) (by kernel_rfl) ?_;refine headG_run (by kernel_rfl) (fun w' hg=>?_) ?_
  ·go_simp;exact Grew.refl _
  refine headG_run (by kernel_rfl) (fun w' hg=>?_) ?_
  ·go_simp;exact Grew.refl _
  refine headG_skip (by kernel_rfl) (by kernel_rfl) ?_;refine headG_skip (by kernel_rfl) (by kernel_rfl) ?_;refine headG_skip (by kernel_rfl) (by kernel_rfl) ?_;refine headG_skip (by kernel_rfl) (by kernel_rfl) ?_;refine headG_skip (by kernel_rfl) (by kernel_rfl) ?_;refine headG_run (by kernel_rfl) (fun w' hg=>?_) ?_
  ·go_simp;exact Grew.refl _
  refine headG_run (by kernel_rfl) (fun w' hg=>?_) ?_
  ·go_simp;exact Grew.refl _
  refine headG_skip (by kernel_rfl) (by kernel_rfl) ?_;refine headG_skip (by kernel_rfl) (by kernel_rfl) ?_;refine headG_skip (by kernel_rfl) (by kernel_rfl) ?_;refine headG_skip (by kernel_rfl) (by kernel_rfl) ?_;refine headG_skip (by kernel_rfl) (by kernel_rfl) ?_;refine headG_run (by kernel_rfl) (fun w' hg=>?_) ?_
  ·go_simp;exact Grew.refl _
  refine headG_run (by kernel_rfl) (fun w' hg=>?_) ?_
  ·go_simp;exact Grew.refl _
  refine headG_skip (by kernel_rfl) (by kernel_rfl) ?_;refine headG_skip (by kernel_rfl) (by kernel_rfl) ?_;refine headG_skip (by kernel_rfl) (by kernel_rfl) ?_;refine headG_skip (by kernel_rfl) (by kernel_rfl) ?_;refine headG_skip (by kernel_rfl) (by kernel_rfl) ?_;refine headG_run (by kernel_rfl) (fun w' hg=>?_) ?_
  ·go_simp;exact Grew.refl _
  refine headG_run (by kernel_rfl) (fun w' hg=>?_) ?_
  ·go_simp;exact Grew.refl _
  refine headG_skip (by kernel_rfl) (by kernel_rfl) ?_;refine headG_skip (by kernel_rfl) (by kernel_rfl) ?_;refine headG_skip (by kernel_rfl) (by kernel_rfl) ?_;refine headG_skip (by kernel_rfl) (by kernel_rfl) ?_;refine headG_skip (by kernel_rfl) (by kernel_rfl) ?_;refine headG_run (by kernel_rfl) (fun w' hg=>?_) ?_
  ·go_simp;exact Grew.refl _
  refine headG_run (by kernel_rfl) (fun w' hg=>?_) ?_
  ·go_simp;exact Grew.refl _
  refine headG_skip (by kernel_rfl) (by kernel_rfl) ?_;refine headG_skip (by kernel_rfl) (by kernel_rfl) ?_;refine headG_skip (by kernel_rfl) (by kernel_rfl) ?_;refine headG_skip (by kernel_rfl) (by kernel_rfl) ?_;refine headG_skip (by kernel_rfl) (by kernel_rfl) ?_;refine headG_run (by kernel_rfl) (fun w' hg=>?_) ?_
  ·go_simp;exact Grew.refl _
  refine headG_run (by kernel_rfl) (fun w' hg=>?_) ?_
  ·go_simp;exact Grew.refl _
  refine headG_skip (by kernel_rfl) (by kernel_rfl) ?_;refine headG_skip (by kernel_rfl) (by kernel_rfl) ?_;refine headG_skip (by kernel_rfl) (by kernel_rfl) ?_;refine headG_skip (by kernel_rfl) (by kernel_rfl) ?_;refine headG_skip (by kernel_rfl) (by kernel_rfl) ?_;refine headG_run (by kernel_rfl) (fun w' hg=>?_) ?_
  ·go_simp;exact Grew.refl _
  refine headG_run (by kernel_rfl) (fun w' hg=>?_) ?_
  ·go_simp;exact Grew.refl _
  exact headG_nil
 case sT=>
  intro w9 hg9;simp only[List.toList_toArray,List.append_eq,List.cons_append,List.nil_append,putAll,Act.put,List.setIfInBounds_toArray,List.set_cons_zero,List.set_cons_succ];go_wp2_with fail;go_ret;exact⟨by rw[HF.out];rfl,HG2.out.trans hg9⟩
theorem tidy_kids {e k:Ex} (h:tidyE e) (hk:k∈e.kids):tidyE k:=tidyKs_mem (tidyE_open h).2.2 hk
theorem peq_any:∀(k:Nat) (e1 e2:Ex),nodesE e1≤k→nodesE e2≤1000000→k≤1000000→tidyE e1→tidyE e2→∀(w:World) (cs1 cs2:List Value),RdE w w.heap.size e1 cs1→RdE w w.heap.size e2 cs2→
  Calls Tryz.prog 9 #[.agg cs1.toArray,.agg cs2.toArray] w fun e' w'=>e'= .returned (.bool (eqE e1 e2))∧Grew w w'
 |0,e1,_,h,_,_,_,_,_,_,_,_,_=>absurd (nodes_pos e1) (by omega)
 |k+1,e1,e2,h1,h2,hk,ht1,ht2,w,cs1,cs2,hr1,hr2=>by
  have n1:=nodes_eq e1;have n2:=nodes_eq e2;have l1:=kids_len_le e1.kids;have l2:=kids_len_le e2.kids;obtain⟨a1,a2, -⟩:=tidyE_open ht1;obtain⟨b1,b2, -⟩:=tidyE_open ht2;exact peq_step e1 e2 (fun a ha b hb w cs1 cs2=>peq_any k a b (by have:=nodesKs_mem ha;omega) (by have:=nodesKs_mem hb;omega) (by omega) (tidy_kids ht1 ha) (tidy_kids ht2 hb) w cs1 cs2) ⟨a1,a2,by omega⟩ ⟨b1,b2,by omega⟩ w cs1 cs2 hr1 hr2
end Go.Proofs.YtcimmbhdcebehaaGreatDoor
