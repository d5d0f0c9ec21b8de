/- parser.Equal: true just where two trees are equal. -/
import Derived.Test.YthpflelgbadkcaaGreatDoorRewriteReadsP01
import Derived.Test.YthpflelgbadkcaaGreatDoorRewriteReadsP20
import Derived.Test.YthpflelgbadkcaaGreatDoorRewriteReadsP22
set_option maxRecDepth 100000
set_option maxHeartbeats 12800000
set_option linter.unusedVariables false
set_option linter.unusedSimpArgs false
namespace Go.Proofs.YthpflelgbadkcaaGreatDoor
open Go.RowKit Pl
theorem OD (e1 e2:Ex) (hIH:∀a∈e1.kids,∀b∈e2.kids,∀(w:World) (cs1 cs2:List Value),BZ w w.heap.size a cs1→BZ w w.heap.size b cs2→Calls Tryz.prog 13 #[.agg cs1.toArray,.agg cs2.toArray] w fun e' w'=>e'= .returned (.bool (FV a b))∧A5 w w')
  (ht1:e1.ms.length≤1000000∧e1.bys.length≤1000000∧e1.kids.length≤1000000) (ht2:e2.ms.length≤1000000∧e2.bys.length≤1000000∧e2.kids.length≤1000000) (w:World) (cs1 cs2:List Value) (hr1:BZ w w.heap.size e1 cs1) (hr2:BZ w w.heap.size e2 cs2):
  Calls Tryz.prog 13 #[.agg cs1.toArray,.agg cs2.toArray] w fun e' w'=>e'= .returned (.bool (FV e1 e2))∧A5 w w':=by
 obtain⟨va1,va2,va3,rfl,hm1,hy1,hT1⟩:=hr1.open_;obtain⟨vb1,vb2,vb3,rfl,hm2,hy2,hT2⟩:=hr2.open_;obtain⟨r7,hr7,hr7'⟩:∃r:Bool,r=decide (e1.ms=e2.ms)∧(r=true↔e1.ms=e2.ms):=⟨_,rfl,decide_eq_true_iff⟩;obtain⟨r8,hr8,hr8'⟩:∃r:Bool,r=decide (e1.bys=e2.bys)∧(r=true↔e1.bys=e2.bys):=⟨_,rfl,decide_eq_true_iff⟩;have HM:=S9 (show ∀w',A5 w w'→Calls Tryz.prog 32 #[va1,vb1] w' (fun e w''=>e= .returned (.bool r7)∧A5 w' w'')from fun w' g=>by rw[hr7];exact PH va1 vb1 e1.ms e2.ms w' (hm1.grew g) (hm2.grew g) ht1.1 ht2.1);have HY:=S9 (show ∀w',A5 w w'→Calls Tryz.prog 33 #[va2,vb2] w' (fun e w''=>e= .returned (.bool r8)∧A5 w' w'')from fun w' g=>by rw[hr8];exact Nf va2 vb2 e1.bys e2.bys w' (hy1.grew g) (hy2.grew g) ht1.2.1 ht2.2.1);have HKs:=S9 (fun w' (g:A5 w w')=>Pw e1.kids e2.kids hIH ht1.2.2 ht2.2.2 va3 vb3 w' (hT1.grew g) (hT2.grew g));obtain⟨Am,Nm,Km,rfl⟩:∃A n c,va1= .slice A n c:=by obtain⟨A,c,h, -⟩:=hm1;exact⟨A,_,c,h⟩
 obtain⟨Ab,Nb,Kb,rfl⟩:∃A n c,va2= .slice A n c:=by obtain⟨A,c,h, -⟩:=hy1;exact⟨A,_,c,h⟩
 obtain⟨Ak,Nk,Kk,rfl, -⟩:=hT1.slice;obtain⟨Bm,Pm,Lm,rfl⟩:∃A n c,vb1= .slice A n c:=by obtain⟨A,c,h, -⟩:=hm2;exact⟨A,_,c,h⟩
 obtain⟨Bb,Pb,Lb,rfl⟩:∃A n c,vb2= .slice A n c:=by obtain⟨A,c,h, -⟩:=hy2;exact⟨A,_,c,h⟩
 obtain⟨Bk,Pk,Lk,rfl, -⟩:=hT2.slice;clear hr1 hr2 hm1 hy1 hT1 hm2 hy2 hT2 hIH ht1 ht2 hr7 hr8;obtain⟨k1,f1,d1,o1,q1,n1,m1,nm1,ms1,by1,ks1⟩:=e1;obtain⟨k2,f2,d2,o2,q2,n2,m2,nm2,ms2,Hy,ks2⟩:=e2;simp only[Ex.kids]at HKs;replace hr7':r7=true↔ms1=ms2:=hr7';replace hr8':r8=true↔by1=Hy:=hr8';by_cases h0:k1=k2
 ·have t0:(k1==k2)=true:=by rw[SG];exact h0
  by_cases h1:f1=f2
  ·have t1:(f1==f2)=true:=by rw[SG];exact h1
   by_cases h2:d1=d2
   ·have t2:(d1==d2)=true:=by rw[SG];exact h2
    by_cases h3:o1=o2
    ·have t3:(o1==o2)=true:=by rw[SG];exact h3
     by_cases h4:q1=q2
     ·have t4:(q1==q2)=true:=by rw[SG];exact h4
      by_cases h5:n1=n2∧m1=m2
      ·have t5:∀w,(binOp .eql 24 (.agg (AN n1 m1).toArray) (.agg (AN n2 m2).toArray)).run Tryz.prog w= .ok (.bool true) w:=fun w=>Eo n1 m1 n2 m2 true (by simpa using h5) w
       by_cases h6:nm1=nm2
       ·have t6:(nm1.toList==nm2.toList)=true:=by rw[KD];simpa using h6
        by_cases h7:ms1=ms2
        ·obtain rfl:r7=true:=hr7'.2 h7;by_cases h8:by1=Hy
         ·obtain rfl:r8=true:=hr8'.2 h8;obtain⟨r,hr⟩:∃r,EQ ks1 ks2=r:=⟨_,rfl⟩;rw[hr]at HKs;have HF:=S9 (show FV (.mk k1 f1 d1 o1 q1 n1 m1 nm1 ms1 by1 ks1) (.mk k2 f2 d2 o2 q2 n2 m2 nm2 ms2 Hy ks2)=r from by rw[DJ];simp only[Ex.kind,Ex.fn,Ex.window,Ex.offset,Ex.k,Ex.num,Ex.den,Ex.name,Ex.ms,Ex.bys,Ex.kids,h0,h1,h2,h3,h4,h5,h6,h7,h8,hr];simp);clear hr h0 h1 h2 h3 h4 h5 h6 h7 h8 hr7' hr8';go_enter Tryz.func13,Tryz.ntmps13;go_upto_region 1 with(first|((with_reducible refine C8 29 (.tmp 0) rfl ?_);refine BW 29 (.tmp 0) (AE (.mk k1 f1 d1 o1 q1 n1 m1 nm1 ms1 by1 ks1) (.slice Am Nm Km) (.slice Ab Nb Kb) (.slice Ak Nk Kk)) rfl rfl (by kernel_rfl) ?_;intro w1 hb1 g1 s1;have HB1:=S9 hb1;have HG1:=S9 g1;have HS1:=S9 s1;clear hb1 g1 s1;simp only[Act.put,List.setIfInBounds_toArray,List.set_cons_zero,List.set_cons_succ])|((with_reducible refine C8 29 (.tmp 1) rfl ?_);refine BW 29 (.tmp 1) (AE (.mk k2 f2 d2 o2 q2 n2 m2 nm2 ms2 Hy ks2) (.slice Bm Pm Lm) (.slice Bb Pb Lb) (.slice Bk Pk Lk)) rfl rfl (by kernel_rfl) ?_;intro w2 hb2 g2 s2;have HB2:=S9 (SC (HB1.out.grew g2) hb2);have HG2:=S9 (HG1.out.trans g2);clear hb2 g2 s2;simp only[Act.put,List.setIfInBounds_toArray,List.set_cons_zero,List.set_cons_succ]));refine AK [.pointer (some ⟨w.heap.size,0,none⟩),.int .i64 k1,.pointer (some ⟨w1.heap.size,0,none⟩),.int .i64 k2,.bool true,.bool true,.pointer (some ⟨w.heap.size,1,none⟩),.int .i64 f1,.pointer (some ⟨w1.heap.size,1,none⟩),.int .i64 f2,.bool true,.bool true,.bool true,.pointer (some ⟨w.heap.size,2,none⟩),.int .i64 d1,.pointer (some ⟨w1.heap.size,2,none⟩),.int .i64 d2,.bool true,.bool true,.bool true,.pointer (some ⟨w.heap.size,3,none⟩),.int .i64 o1,.pointer (some ⟨w1.heap.size,3,none⟩),.int .i64 o2,.bool true,.bool true,.bool true,.pointer (some ⟨w.heap.size,4,none⟩),.int .i64 q1,.pointer (some ⟨w1.heap.size,4,none⟩),.int .i64 q2,.bool true,.bool true,.bool true,.pointer (some ⟨w.heap.size,5,none⟩),.agg (AN n1 m1).toArray,.pointer (some ⟨w1.heap.size,5,none⟩),.agg (AN n2 m2).toArray,.bool true,.bool true,.bool true,.pointer (some ⟨w.heap.size,7,none⟩),.string nm1,.pointer (some ⟨w1.heap.size,7,none⟩),.string nm2,.bool true,.bool true,.bool true,.pointer (some ⟨w.heap.size,8,none⟩),.slice Am Nm Km,.pointer (some ⟨w1.heap.size,8,none⟩),.slice Bm Pm Lm,.bool true,.bool true,.bool true,.pointer (some ⟨w.heap.size,9,none⟩),.slice Ab Nb Kb,.pointer (some ⟨w1.heap.size,9,none⟩),.slice Bb Pb Lb,.bool true,.bool true,.bool true,.pointer (some ⟨w.heap.size,10,none⟩),.slice Ak Nk Kk,.pointer (some ⟨w1.heap.size,10,none⟩),.slice Bk Pk Lk,.bool r,.bool r,.bool r] _ (by kernel_rfl) (by kernel_rfl) rfl ?sH ?sT
          case sH=>
           simp only[List.toList_toArray,List.append_eq,List.cons_append,List.nil_append,AI,Act.put,List.setIfInBounds_toArray,List.set_cons_zero,List.set_cons_succ];refine A4 (by kernel_rfl) (fun w' hg=>?_) ?_
           ·go_simp;exact Sa _
           refine A4 (by kernel_rfl) (fun w' hg=>?_) ?_
           ·have hc:w'.cell? ⟨w.heap.size,0,none⟩=some (.int .i64 k1):=(HB2.out.1.grew hg).cell 0;exact AT 3 (.tmp 5) (fun w v h=>by simp[go_sem,h]) rfl (by kernel_rfl) hc ⟨by kernel_rfl,Sa _⟩
           refine A4 (by kernel_rfl) (fun w' hg=>?_) ?_
           ·go_simp;exact Sa _
           refine A4 (by kernel_rfl) (fun w' hg=>?_) ?_
           ·have hc:w'.cell? ⟨w1.heap.size,0,none⟩=some (.int .i64 k2):=(HB2.out.2.grew hg).cell 0;exact AT 3 (.tmp 7) (fun w v h=>by simp[go_sem,h]) rfl (by kernel_rfl) hc ⟨by kernel_rfl,Sa _⟩
           refine A4 (by kernel_rfl) (fun w' hg=>?_) ?_
           ·go_simp;exact Sa _
           refine A4 (by kernel_rfl) (fun w' hg=>?_) ?_
           ·go_simp;exact Sa _
           refine A4 (by kernel_rfl) (fun w' hg=>?_) ?_
           ·go_simp;exact Sa _
           refine A4 (by kernel_rfl) (fun w' hg=>?_) ?_
           ·have hc:w'.cell? ⟨w.heap.size,1,none⟩=some (.int .i64 f1):=(HB2.out.1.grew hg).cell 1;exact AT 3 (.tmp 11) (fun w v h=>by simp[go_sem,h]) rfl (by kernel_rfl) hc ⟨by kernel_rfl,Sa _⟩
           refine A4 (by kernel_rfl) (fun w' hg=>?_) ?_
           ·go_simp;exact Sa _
           refine A4 (by kernel_rfl) (fun w' hg=>?_) ?_
           ·have hc:w'.cell? ⟨w1.heap.size,1,none⟩=some (.int .i64 f2):=(HB2.out.2.grew hg).cell 1;exact AT 3 (.tmp 13) (fun w v h=>by simp[go_sem,h]) rfl (by kernel_rfl) hc ⟨by kernel_rfl,Sa _⟩
           refine A4 (by kernel_rfl) (fun w' hg=>?_) ?_
           ·go_simp;exact Sa _
           refine A4 (by kernel_rfl) (fun w' hg=>?_) ?_
           ·go_simp;exact Sa _
           refine A4 (by kernel_rfl) (fun w' hg=>?_) ?_
           ·go_simp;exact Sa _
           refine A4 (by kernel_rfl) (fun w' hg=>?_) ?_
           ·go_simp;exact Sa _
           refine A4 (by kernel_rfl) (fun w' hg=>?_) ?_
           ·have hc:w'.cell? ⟨w.heap.size,2,none⟩=some (.int .i64 d1):=(HB2.out.1.grew hg).cell 2;exact AT 3 (.tmp 18) (fun w v h=>by simp[go_sem,h]) rfl (by kernel_rfl) hc ⟨by kernel_rfl,Sa _⟩
           refine A4 (by kernel_rfl) (fun w' hg=>?_) ?_
           ·go_simp;exact Sa _
           refine A4 (by kernel_rfl) (fun w' hg=>?_) ?_
           ·have hc:w'.cell? ⟨w1.heap.size,2,none⟩=some (.int .i64 d2):=(HB2.out.2.grew hg).cell 2;exact AT 3 (.tmp 20) (fun w v h=>by simp[go_sem,h]) rfl (by kernel_rfl) hc ⟨by kernel_rfl,Sa _⟩
           refine A4 (by kernel_rfl) (fun w' hg=>?_) ?_
           ·go_simp;exact Sa _
           refine A4 (by kernel_rfl) (fun w' hg=>?_) ?_
           ·go_simp;exact Sa _
           refine A4 (by kernel_rfl) (fun w' hg=>?_) ?_
           ·go_simp;exact Sa _
           refine A4 (by kernel_rfl) (fun w' hg=>?_) ?_
           ·go_simp;exact Sa _
           refine A4 (by kernel_rfl) (fun w' hg=>?_) ?_
           ·have hc:w'.cell? ⟨w.heap.size,3,none⟩=some (.int .i64 o1):=(HB2.out.1.grew hg).cell 3;exact AT 3 (.tmp 25) (fun w v h=>by simp[go_sem,h]) rfl (by kernel_rfl) hc ⟨by kernel_rfl,Sa _⟩
           refine A4 (by kernel_rfl) (fun w' hg=>?_) ?_
           ·go_simp;exact Sa _
           refine A4 (by kernel_rfl) (fun w' hg=>?_) ?_
           ·have hc:w'.cell? ⟨w1.heap.size,3,none⟩=some (.int .i64 o2):=(HB2.out.2.grew hg).cell 3;exact AT 3 (.tmp 27) (fun w v h=>by simp[go_sem,h]) rfl (by kernel_rfl) hc ⟨by kernel_rfl,Sa _⟩
           refine A4 (by kernel_rfl) (fun w' hg=>?_) ?_
           ·go_simp;exact Sa _
           refine A4 (by kernel_rfl) (fun w' hg=>?_) ?_
           ·go_simp;exact Sa _
           refine A4 (by kernel_rfl) (fun w' hg=>?_) ?_
           ·go_simp;exact Sa _
           refine A4 (by kernel_rfl) (fun w' hg=>?_) ?_
           ·go_simp;exact Sa _
           refine A4 (by kernel_rfl) (fun w' hg=>?_) ?_
           ·have hc:w'.cell? ⟨w.heap.size,4,none⟩=some (.int .i64 q1):=(HB2.out.1.grew hg).cell 4;exact AT 3 (.tmp 32) (fun w v h=>by simp[go_sem,h]) rfl (by kernel_rfl) hc ⟨by kernel_rfl,Sa _⟩
           refine A4 (by kernel_rfl) (fun w' hg=>?_) ?_
           ·go_simp;exact Sa _
           refine A4 (by kernel_rfl) (fun w' hg=>?_) ?_
           ·have hc:w'.cell? ⟨w1.heap.size,4,none⟩=some (.int .i64 q2):=(HB2.out.2.grew hg).cell 4;exact AT 3 (.tmp 34) (fun w v h=>by simp[go_sem,h]) rfl (by kernel_rfl) hc ⟨by kernel_rfl,Sa _⟩
           refine A4 (by kernel_rfl) (fun w' hg=>?_) ?_
           ·go_simp;exact Sa _
           refine A4 (by kernel_rfl) (fun w' hg=>?_) ?_
           ·go_simp;exact Sa _
           refine A4 (by kernel_rfl) (fun w' hg=>?_) ?_
           ·go_simp;exact Sa _
           refine A4 (by kernel_rfl) (fun w' hg=>?_) ?_
           ·go_simp;exact Sa _
           refine A4 (by kernel_rfl) (fun w' hg=>?_) ?_
           ·refine wp_load_mid 24 (.tmp 39) rfl (w.heap.size) 5 rfl (AN n1 m1) _ ((HB2.out.1.grew hg).rangeN 5 _ rfl) Tryz.underlying24 rfl Ad ?_;exact⟨rfl,Sa _⟩
           refine A4 (by kernel_rfl) (fun w' hg=>?_) ?_
           ·go_simp;exact Sa _
           refine A4 (by kernel_rfl) (fun w' hg=>?_) ?_
           ·refine wp_load_mid 24 (.tmp 41) rfl (w1.heap.size) 5 rfl (AN n2 m2) _ ((HB2.out.2.grew hg).rangeN 5 _ rfl) Tryz.underlying24 rfl Ad ?_;exact⟨rfl,Sa _⟩
           refine A4 (by kernel_rfl) (fun w' hg=>?_) ?_
           ·have hne:=t5;go_simp;exact Sa _
           refine A4 (by kernel_rfl) (fun w' hg=>?_) ?_
           ·go_simp;exact Sa _
           refine A4 (by kernel_rfl) (fun w' hg=>?_) ?_
           ·go_simp;exact Sa _
           refine A4 (by kernel_rfl) (fun w' hg=>?_) ?_
           ·go_simp;exact Sa _
           refine A4 (by kernel_rfl) (fun w' hg=>?_) ?_
           ·have hc:w'.cell? ⟨w.heap.size,7,none⟩=some (.string nm1):=(HB2.out.1.grew hg).cell 7;exact AT 9 (.tmp 46) (fun w v h=>by simp[go_sem,h]) rfl (by kernel_rfl) hc ⟨by kernel_rfl,Sa _⟩
           refine A4 (by kernel_rfl) (fun w' hg=>?_) ?_
           ·go_simp;exact Sa _
           refine A4 (by kernel_rfl) (fun w' hg=>?_) ?_
           ·have hc:w'.cell? ⟨w1.heap.size,7,none⟩=some (.string nm2):=(HB2.out.2.grew hg).cell 7;exact AT 9 (.tmp 48) (fun w v h=>by simp[go_sem,h]) rfl (by kernel_rfl) hc ⟨by kernel_rfl,Sa _⟩
           refine A4 (by kernel_rfl) (fun w' hg=>?_) ?_
           ·have hne:=t6;go_simp;exact Sa _
           refine A4 (by kernel_rfl) (fun w' hg=>?_) ?_
           ·go_simp;exact Sa _
           refine A4 (by kernel_rfl) (fun w' hg=>?_) ?_
           ·go_simp;exact Sa _
           refine A4 (by kernel_rfl) (fun w' hg=>?_) ?_
           ·go_simp;exact Sa _
           refine A4 (by kernel_rfl) (fun w' hg=>?_) ?_
           ·have hc:w'.cell? ⟨w.heap.size,8,none⟩=some (.slice Am Nm Km):=(HB2.out.1.grew hg).cell 8;exact AT 25 (.tmp 53) (fun w v h=>by simp[go_sem,h]) rfl (by kernel_rfl) hc ⟨by kernel_rfl,Sa _⟩
           refine A4 (by kernel_rfl) (fun w' hg=>?_) ?_
           ·go_simp;exact Sa _
           refine A4 (by kernel_rfl) (fun w' hg=>?_) ?_
           ·have hc:w'.cell? ⟨w1.heap.size,8,none⟩=some (.slice Bm Pm Lm):=(HB2.out.2.grew hg).cell 8;exact AT 25 (.tmp 55) (fun w v h=>by simp[go_sem,h]) rfl (by kernel_rfl) hc ⟨by kernel_rfl,Sa _⟩
           refine A4 (by kernel_rfl) (fun w' hg=>?_) ?_
           ·go_simp;(with_reducible refine(HM.out _ (HG2.out.trans hg)).mono ?_);rintro e wq ⟨rfl,kq⟩;exact⟨rfl,kq⟩
           refine A4 (by kernel_rfl) (fun w' hg=>?_) ?_
           ·go_simp;exact Sa _
           refine A4 (by kernel_rfl) (fun w' hg=>?_) ?_
           ·go_simp;exact Sa _
           refine A4 (by kernel_rfl) (fun w' hg=>?_) ?_
           ·go_simp;exact Sa _
           refine A4 (by kernel_rfl) (fun w' hg=>?_) ?_
           ·have hc:w'.cell? ⟨w.heap.size,9,none⟩=some (.slice Ab Nb Kb):=(HB2.out.1.grew hg).cell 9;exact AT 26 (.tmp 60) (fun w v h=>by simp[go_sem,h]) rfl (by kernel_rfl) hc ⟨by kernel_rfl,Sa _⟩
           refine A4 (by kernel_rfl) (fun w' hg=>?_) ?_
           ·go_simp;exact Sa _
           refine A4 (by kernel_rfl) (fun w' hg=>?_) ?_
           ·have hc:w'.cell? ⟨w1.heap.size,9,none⟩=some (.slice Bb Pb Lb):=(HB2.out.2.grew hg).cell 9;exact AT 26 (.tmp 62) (fun w v h=>by simp[go_sem,h]) rfl (by kernel_rfl) hc ⟨by kernel_rfl,Sa _⟩
           refine A4 (by kernel_rfl) (fun w' hg=>?_) ?_
           ·go_simp;(with_reducible refine(HY.out _ (HG2.out.trans hg)).mono ?_);rintro e wq ⟨rfl,kq⟩;exact⟨rfl,kq⟩
           refine A4 (by kernel_rfl) (fun w' hg=>?_) ?_
           ·go_simp;exact Sa _
           refine A4 (by kernel_rfl) (fun w' hg=>?_) ?_
           ·go_simp;exact Sa _
           refine A4 (by kernel_rfl) (fun w' hg=>?_) ?_
           ·go_simp;exact Sa _
           refine A4 (by kernel_rfl) (fun w' hg=>?_) ?_
           ·have hc:w'.cell? ⟨w.heap.size,10,none⟩=some (.slice Ak Nk Kk):=(HB2.out.1.grew hg).cell 10;exact AT 27 (.tmp 67) (fun w v h=>by simp[go_sem,h]) rfl (by kernel_rfl) hc ⟨by kernel_rfl,Sa _⟩
           refine A4 (by kernel_rfl) (fun w' hg=>?_) ?_
           ·go_simp;exact Sa _
           refine A4 (by kernel_rfl) (fun w' hg=>?_) ?_
           ·have hc:w'.cell? ⟨w1.heap.size,10,none⟩=some (.slice Bk Pk Lk):=(HB2.out.2.grew hg).cell 10;exact AT 27 (.tmp 69) (fun w v h=>by simp[go_sem,h]) rfl (by kernel_rfl) hc ⟨by kernel_rfl,Sa _⟩
           refine A4 (by kernel_rfl) (fun w' hg=>?_) ?_
           ·go_simp;(with_reducible refine(HKs.out _ (HG2.out.trans hg)).mono ?_);rintro e wq ⟨rfl,kq⟩;exact⟨rfl,kq⟩
           refine A4 (by kernel_rfl) (fun w' hg=>?_) ?_
           ·go_simp;exact Sa _
           refine A4 (by kernel_rfl) (fun w' hg=>?_) ?_
           ·go_simp;exact Sa _
           exact AQ
          case sT=>
           intro w9 hg9;simp only[List.toList_toArray,List.append_eq,List.cons_append,List.nil_append,AI,Act.put,List.setIfInBounds_toArray,List.set_cons_zero,List.set_cons_succ];go_wp2_with fail;go_ret;exact⟨by rw[HF.out];rfl,HG2.out.trans hg9⟩
         obtain rfl:r8=false:=by cases r8;rfl;exact absurd (hr8'.1 rfl) h8
         have HF:=S9 (show FV (.mk k1 f1 d1 o1 q1 n1 m1 nm1 ms1 by1 ks1) (.mk k2 f2 d2 o2 q2 n2 m2 nm2 ms2 Hy ks2)=false from by rw[DJ,SM (fun h=>h8 h.2.2.2.2.2.2.2.2.2)];rfl);clear h0 h1 h2 h3 h4 h5 h6 h7 h8 hr7' hr8';go_enter Tryz.func13,Tryz.ntmps13;go_upto_region 1 with(first|((with_reducible refine C8 29 (.tmp 0) rfl ?_);refine BW 29 (.tmp 0) (AE (.mk k1 f1 d1 o1 q1 n1 m1 nm1 ms1 by1 ks1) (.slice Am Nm Km) (.slice Ab Nb Kb) (.slice Ak Nk Kk)) rfl rfl (by kernel_rfl) ?_;intro w1 hb1 g1 s1;have HB1:=S9 hb1;have HG1:=S9 g1;have HS1:=S9 s1;clear hb1 g1 s1;simp only[Act.put,List.setIfInBounds_toArray,List.set_cons_zero,List.set_cons_succ])|((with_reducible refine C8 29 (.tmp 1) rfl ?_);refine BW 29 (.tmp 1) (AE (.mk k2 f2 d2 o2 q2 n2 m2 nm2 ms2 Hy ks2) (.slice Bm Pm Lm) (.slice Bb Pb Lb) (.slice Bk Pk Lk)) rfl rfl (by kernel_rfl) ?_;intro w2 hb2 g2 s2;have HB2:=S9 (SC (HB1.out.grew g2) hb2);have HG2:=S9 (HG1.out.trans g2);clear hb2 g2 s2;simp only[Act.put,List.setIfInBounds_toArray,List.set_cons_zero,List.set_cons_succ]));refine AK [.pointer (some ⟨w.heap.size,0,none⟩),.int .i64 k1,.pointer (some ⟨w1.heap.size,0,none⟩),.int .i64 k2,.bool true,.bool true,.pointer (some ⟨w.heap.size,1,none⟩),.int .i64 f1,.pointer (some ⟨w1.heap.size,1,none⟩),.int .i64 f2,.bool true,.bool true,.bool true,.pointer (some ⟨w.heap.size,2,none⟩),.int .i64 d1,.pointer (some ⟨w1.heap.size,2,none⟩),.int .i64 d2,.bool true,.bool true,.bool true,.pointer (some ⟨w.heap.size,3,none⟩),.int .i64 o1,.pointer (some ⟨w1.heap.size,3,none⟩),.int .i64 o2,.bool true,.bool true,.bool true,.pointer (some ⟨w.heap.size,4,none⟩),.int .i64 q1,.pointer (some ⟨w1.heap.size,4,none⟩),.int .i64 q2,.bool true,.bool true,.bool true,.pointer (some ⟨w.heap.size,5,none⟩),.agg (AN n1 m1).toArray,.pointer (some ⟨w1.heap.size,5,none⟩),.agg (AN n2 m2).toArray,.bool true,.bool true,.bool true,.pointer (some ⟨w.heap.size,7,none⟩),.string nm1,.pointer (some ⟨w1.heap.size,7,none⟩),.string nm2,.bool true,.bool true,.bool true,.pointer (some ⟨w.heap.size,8,none⟩),.slice Am Nm Km,.pointer (some ⟨w1.heap.size,8,none⟩),.slice Bm Pm Lm,.bool true,.bool true,.bool true,.pointer (some ⟨w.heap.size,9,none⟩),.slice Ab Nb Kb,.pointer (some ⟨w1.heap.size,9,none⟩),.slice Bb Pb Lb,.bool false,.bool false,.bool false,undef,undef,undef,undef,undef,.bool false,.bool false] _ (by kernel_rfl) (by kernel_rfl) rfl ?sH ?sT
         case sH=>
          simp only[List.toList_toArray,List.append_eq,List.cons_append,List.nil_append,AI,Act.put,List.setIfInBounds_toArray,List.set_cons_zero,List.set_cons_succ];refine A4 (by kernel_rfl) (fun w' hg=>?_) ?_
          ·go_simp;exact Sa _
          refine A4 (by kernel_rfl) (fun w' hg=>?_) ?_
          ·have hc:w'.cell? ⟨w.heap.size,0,none⟩=some (.int .i64 k1):=(HB2.out.1.grew hg).cell 0;exact AT 3 (.tmp 5) (fun w v h=>by simp[go_sem,h]) rfl (by kernel_rfl) hc ⟨by kernel_rfl,Sa _⟩
          refine A4 (by kernel_rfl) (fun w' hg=>?_) ?_
          ·go_simp;exact Sa _
          refine A4 (by kernel_rfl) (fun w' hg=>?_) ?_
          ·have hc:w'.cell? ⟨w1.heap.size,0,none⟩=some (.int .i64 k2):=(HB2.out.2.grew hg).cell 0;exact AT 3 (.tmp 7) (fun w v h=>by simp[go_sem,h]) rfl (by kernel_rfl) hc ⟨by kernel_rfl,Sa _⟩
          refine A4 (by kernel_rfl) (fun w' hg=>?_) ?_
          ·go_simp;exact Sa _
          refine A4 (by kernel_rfl) (fun w' hg=>?_) ?_
          ·go_simp;exact Sa _
          refine A4 (by kernel_rfl) (fun w' hg=>?_) ?_
          ·go_simp;exact Sa _
          refine A4 (by kernel_rfl) (fun w' hg=>?_) ?_
          ·have hc:w'.cell? ⟨w.heap.size,1,none⟩=some (.int .i64 f1):=(HB2.out.1.grew hg).cell 1;exact AT 3 (.tmp 11) (fun w v h=>by simp[go_sem,h]) rfl (by kernel_rfl) hc ⟨by kernel_rfl,Sa _⟩
          refine A4 (by kernel_rfl) (fun w' hg=>?_) ?_
          ·go_simp;exact Sa _
          refine A4 (by kernel_rfl) (fun w' hg=>?_) ?_
          ·have hc:w'.cell? ⟨w1.heap.size,1,none⟩=some (.int .i64 f2):=(HB2.out.2.grew hg).cell 1;exact AT 3 (.tmp 13) (fun w v h=>by simp[go_sem,h]) rfl (by kernel_rfl) hc ⟨by kernel_rfl,Sa _⟩
          refine A4 (by kernel_rfl) (fun w' hg=>?_) ?_
          ·go_simp;exact Sa _
          refine A4 (by kernel_rfl) (fun w' hg=>?_) ?_
          ·go_simp;exact Sa _
          refine A4 (by kernel_rfl) (fun w' hg=>?_) ?_
          ·go_simp;exact Sa _
          refine A4 (by kernel_rfl) (fun w' hg=>?_) ?_
          ·go_simp;exact Sa _
          refine A4 (by kernel_rfl) (fun w' hg=>?_) ?_
          ·have hc:w'.cell? ⟨w.heap.size,2,none⟩=some (.int .i64 d1):=(HB2.out.1.grew hg).cell 2;exact AT 3 (.tmp 18) (fun w v h=>by simp[go_sem,h]) rfl (by kernel_rfl) hc ⟨by kernel_rfl,Sa _⟩
          refine A4 (by kernel_rfl) (fun w' hg=>?_) ?_
          ·go_simp;exact Sa _
          refine A4 (by kernel_rfl) (fun w' hg=>?_) ?_
          ·have hc:w'.cell? ⟨w1.heap.size,2,none⟩=some (.int .i64 d2):=(HB2.out.2.grew hg).cell 2;exact AT 3 (.tmp 20) (fun w v h=>by simp[go_sem,h]) rfl (by kernel_rfl) hc ⟨by kernel_rfl,Sa _⟩
          refine A4 (by kernel_rfl) (fun w' hg=>?_) ?_
          ·go_simp;exact Sa _
          refine A4 (by kernel_rfl) (fun w' hg=>?_) ?_
          ·go_simp;exact Sa _
          refine A4 (by kernel_rfl) (fun w' hg=>?_) ?_
          ·go_simp;exact Sa _
          refine A4 (by kernel_rfl) (fun w' hg=>?_) ?_
          ·go_simp;exact Sa _
          refine A4 (by kernel_rfl) (fun w' hg=>?_) ?_
          ·have hc:w'.cell? ⟨w.heap.size,3,none⟩=some (.int .i64 o1):=(HB2.out.1.grew hg).cell 3;exact AT 3 (.tmp 25) (fun w v h=>by simp[go_sem,h]) rfl (by kernel_rfl) hc ⟨by kernel_rfl,Sa _⟩
          refine A4 (by kernel_rfl) (fun w' hg=>?_) ?_
          ·go_simp;exact Sa _
          refine A4 (by kernel_rfl) (fun w' hg=>?_) ?_
          ·have hc:w'.cell? ⟨w1.heap.size,3,none⟩=some (.int .i64 o2):=(HB2.out.2.grew hg).cell 3;exact AT 3 (.tmp 27) (fun w v h=>by simp[go_sem,h]) rfl (by kernel_rfl) hc ⟨by kernel_rfl,Sa _⟩
          refine A4 (by kernel_rfl) (fun w' hg=>?_) ?_
          ·go_simp;exact Sa _
          refine A4 (by kernel_rfl) (fun w' hg=>?_) ?_
          ·go_simp;exact Sa _
          refine A4 (by kernel_rfl) (fun w' hg=>?_) ?_
          ·go_simp;exact Sa _
          refine A4 (by kernel_rfl) (fun w' hg=>?_) ?_
          ·go_simp;exact Sa _
          refine A4 (by kernel_rfl) (fun w' hg=>?_) ?_
          ·have hc:w'.cell? ⟨w.heap.size,4,none⟩=some (.int .i64 q1):=(HB2.out.1.grew hg).cell 4;exact AT 3 (.tmp 32) (fun w v h=>by simp[go_sem,h]) rfl (by kernel_rfl) hc ⟨by kernel_rfl,Sa _⟩
          refine A4 (by kernel_rfl) (fun w' hg=>?_) ?_
          ·go_simp;exact Sa _
          refine A4 (by kernel_rfl) (fun w' hg=>?_) ?_
          ·have hc:w'.cell? ⟨w1.heap.size,4,none⟩=some (.int .i64 q2):=(HB2.out.2.grew hg).cell 4;exact AT 3 (.tmp 34) (fun w v h=>by simp[go_sem,h]) rfl (by kernel_rfl) hc ⟨by kernel_rfl,Sa _⟩
          refine A4 (by kernel_rfl) (fun w' hg=>?_) ?_
          ·go_simp;exact Sa _
          refine A4 (by kernel_rfl) (fun w' hg=>?_) ?_
          ·go_simp;exact Sa _
          refine A4 (by kernel_rfl) (fun w' hg=>?_) ?_
          ·go_simp;exact Sa _
          refine A4 (by kernel_rfl) (fun w' hg=>?_) ?_
          ·go_simp;exact Sa _
          refine A4 (by kernel_rfl) (fun w' hg=>?_) ?_
          ·refine wp_load_mid 24 (.tmp 39) rfl (w.heap.size) 5 rfl (AN n1 m1) _ ((HB2.out.1.grew hg).rangeN 5 _ rfl) Tryz.underlying24 rfl Ad ?_;exact⟨rfl,Sa _⟩
          refine A4 (by kernel_rfl) (fun w' hg=>?_) ?_
          ·go_simp;exact Sa _
          refine A4 (by kernel_rfl) (fun w' hg=>?_) ?_
          ·refine wp_load_mid 24 (.tmp 41) rfl (w1.heap.size) 5 rfl (AN n2 m2) _ ((HB2.out.2.grew hg).rangeN 5 _ rfl) Tryz.underlying24 rfl Ad ?_;exact⟨rfl,Sa _⟩
          refine A4 (by kernel_rfl) (fun w' hg=>?_) ?_
          ·have hne:=t5;go_simp;exact Sa _
          refine A4 (by kernel_rfl) (fun w' hg=>?_) ?_
          ·go_simp;exact Sa _
          refine A4 (by kernel_rfl) (fun w' hg=>?_) ?_
          ·go_simp;exact Sa _
          refine A4 (by kernel_rfl) (fun w' hg=>?_) ?_
          ·go_simp;exact Sa _
          refine A4 (by kernel_rfl) (fun w' hg=>?_) ?_
          ·have hc:w'.cell? ⟨w.heap.size,7,none⟩=some (.string nm1):=(HB2.out.1.grew hg).cell 7;exact AT 9 (.tmp 46) (fun w v h=>by simp[go_sem,h]) rfl (by kernel_rfl) hc ⟨by kernel_rfl,Sa _⟩
          refine A4 (by kernel_rfl) (fun w' hg=>?_) ?_
          ·go_simp;exact Sa _
          refine A4 (by kernel_rfl) (fun w' hg=>?_) ?_
          ·have hc:w'.cell? ⟨w1.heap.size,7,none⟩=some (.string nm2):=(HB2.out.2.grew hg).cell 7;exact AT 9 (.tmp 48) (fun w v h=>by simp[go_sem,h]) rfl (by kernel_rfl) hc ⟨by kernel_rfl,Sa _⟩
          refine A4 (by kernel_rfl) (fun w' hg=>?_) ?_
          ·have hne:=t6;go_simp;exact Sa _
          refine A4 (by kernel_rfl) (fun w' hg=>?_) ?_
          ·go_simp;exact Sa _
          refine A4 (by kernel_rfl) (fun w' hg=>?_) ?_
          ·go_simp;exact Sa _
          refine A4 (by kernel_rfl) (fun w' hg=>?_) ?_
          ·go_simp;exact Sa _
          refine A4 (by kernel_rfl) (fun w' hg=>?_) ?_
          ·have hc:w'.cell? ⟨w.heap.size,8,none⟩=some (.slice Am Nm Km):=(HB2.out.1.grew hg).cell 8;exact AT 25 (.tmp 53) (fun w v h=>by simp[go_sem,h]) rfl (by kernel_rfl) hc ⟨by kernel_rfl,Sa _⟩
          refine A4 (by kernel_rfl) (fun w' hg=>?_) ?_
          ·go_simp;exact Sa _
          refine A4 (by kernel_rfl) (fun w' hg=>?_) ?_
          ·have hc:w'.cell? ⟨w1.heap.size,8,none⟩=some (.slice Bm Pm Lm):=(HB2.out.2.grew hg).cell 8;exact AT 25 (.tmp 55) (fun w v h=>by simp[go_sem,h]) rfl (by kernel_rfl) hc ⟨by kernel_rfl,Sa _⟩
          refine A4 (by kernel_rfl) (fun w' hg=>?_) ?_
          ·go_simp;(with_reducible refine(HM.out _ (HG2.out.trans hg)).mono ?_);rintro e wq ⟨rfl,kq⟩;exact⟨rfl,kq⟩
          refine A4 (by kernel_rfl) (fun w' hg=>?_) ?_
          ·go_simp;exact Sa _
          refine A4 (by kernel_rfl) (fun w' hg=>?_) ?_
          ·go_simp;exact Sa _
          refine A4 (by kernel_rfl) (fun w' hg=>?_) ?_
          ·go_simp;exact Sa _
          refine A4 (by kernel_rfl) (fun w' hg=>?_) ?_
          ·have hc:w'.cell? ⟨w.heap.size,9,none⟩=some (.slice Ab Nb Kb):=(HB2.out.1.grew hg).cell 9;exact AT 26 (.tmp 60) (fun w v h=>by simp[go_sem,h]) rfl (by kernel_rfl) hc ⟨by kernel_rfl,Sa _⟩
          refine A4 (by kernel_rfl) (fun w' hg=>?_) ?_
          ·go_simp;exact Sa _
          refine A4 (by kernel_rfl) (fun w' hg=>?_) ?_
          ·have hc:w'.cell? ⟨w1.heap.size,9,none⟩=some (.slice Bb Pb Lb):=(HB2.out.2.grew hg).cell 9;exact AT 26 (.tmp 62) (fun w v h=>by simp[go_sem,h]) rfl (by kernel_rfl) hc ⟨by kernel_rfl,Sa _⟩
          refine A4 (by kernel_rfl) (fun w' hg=>?_) ?_
          ·go_simp;(with_reducible refine(HY.out _ (HG2.out.trans hg)).mono ?_);rintro e wq ⟨rfl,kq⟩;exact⟨rfl,kq⟩
          refine A4 (by kernel_rfl) (fun w' hg=>?_) ?_
          ·go_simp;exact Sa _
          refine A4 (by kernel_rfl) (fun w' hg=>?_) ?_
          ·go_simp;exact Sa _
          refine AA (by kernel_rfl) (by kernel_rfl) ?_;refine AA (by kernel_rfl) (by kernel_rfl) ?_;refine AA (by kernel_rfl) (by kernel_rfl) ?_;refine AA (by kernel_rfl) (by kernel_rfl) ?_;refine AA (by kernel_rfl) (by kernel_rfl) ?_;refine A4 (by kernel_rfl) (fun w' hg=>?_) ?_
          ·go_simp;exact Sa _
          refine A4 (by kernel_rfl) (fun w' hg=>?_) ?_
          ·go_simp;exact Sa _
          exact AQ
         case sT=>
          intro w9 hg9;simp only[List.toList_toArray,List.append_eq,List.cons_append,List.nil_append,AI,Act.put,List.setIfInBounds_toArray,List.set_cons_zero,List.set_cons_succ];go_wp2_with fail;go_ret;exact⟨by rw[HF.out];rfl,HG2.out.trans hg9⟩
        obtain rfl:r7=false:=by cases r7;rfl;exact absurd (hr7'.1 rfl) h7
        have HF:=S9 (show FV (.mk k1 f1 d1 o1 q1 n1 m1 nm1 ms1 by1 ks1) (.mk k2 f2 d2 o2 q2 n2 m2 nm2 ms2 Hy ks2)=false from by rw[DJ,SM (fun h=>h7 h.2.2.2.2.2.2.2.2.1)];rfl);clear h0 h1 h2 h3 h4 h5 h6 h7 hr7' hr8';go_enter Tryz.func13,Tryz.ntmps13;go_upto_region 1 with(first|((with_reducible refine C8 29 (.tmp 0) rfl ?_);refine BW 29 (.tmp 0) (AE (.mk k1 f1 d1 o1 q1 n1 m1 nm1 ms1 by1 ks1) (.slice Am Nm Km) (.slice Ab Nb Kb) (.slice Ak Nk Kk)) rfl rfl (by kernel_rfl) ?_;intro w1 hb1 g1 s1;have HB1:=S9 hb1;have HG1:=S9 g1;have HS1:=S9 s1;clear hb1 g1 s1;simp only[Act.put,List.setIfInBounds_toArray,List.set_cons_zero,List.set_cons_succ])|((with_reducible refine C8 29 (.tmp 1) rfl ?_);refine BW 29 (.tmp 1) (AE (.mk k2 f2 d2 o2 q2 n2 m2 nm2 ms2 Hy ks2) (.slice Bm Pm Lm) (.slice Bb Pb Lb) (.slice Bk Pk Lk)) rfl rfl (by kernel_rfl) ?_;intro w2 hb2 g2 s2;have HB2:=S9 (SC (HB1.out.grew g2) hb2);have HG2:=S9 (HG1.out.trans g2);clear hb2 g2 s2;simp only[Act.put,List.setIfInBounds_toArray,List.set_cons_zero,List.set_cons_succ]));refine AK [.pointer (some ⟨w.heap.size,0,none⟩),.int .i64 k1,.pointer (some ⟨w1.heap.size,0,none⟩),.int .i64 k2,.bool true,.bool true,.pointer (some ⟨w.heap.size,1,none⟩),.int .i64 f1,.pointer (some ⟨w1.heap.size,1,none⟩),.int .i64 f2,.bool true,.bool true,.bool true,.pointer (some ⟨w.heap.size,2,none⟩),.int .i64 d1,.pointer (some ⟨w1.heap.size,2,none⟩),.int .i64 d2,.bool true,.bool true,.bool true,.pointer (some ⟨w.heap.size,3,none⟩),.int .i64 o1,.pointer (some ⟨w1.heap.size,3,none⟩),.int .i64 o2,.bool true,.bool true,.bool true,.pointer (some ⟨w.heap.size,4,none⟩),.int .i64 q1,.pointer (some ⟨w1.heap.size,4,none⟩),.int .i64 q2,.bool true,.bool true,.bool true,.pointer (some ⟨w.heap.size,5,none⟩),.agg (AN n1 m1).toArray,.pointer (some ⟨w1.heap.size,5,none⟩),.agg (AN n2 m2).toArray,.bool true,.bool true,.bool true,.pointer (some ⟨w.heap.size,7,none⟩),.string nm1,.pointer (some ⟨w1.heap.size,7,none⟩),.string nm2,.bool true,.bool true,.bool true,.pointer (some ⟨w.heap.size,8,none⟩),.slice Am Nm Km,.pointer (some ⟨w1.heap.size,8,none⟩),.slice Bm Pm Lm,.bool false,.bool false,.bool false,undef,undef,undef,undef,undef,.bool false,.bool false,undef,undef,undef,undef,undef,.bool false,.bool false] _ (by kernel_rfl) (by kernel_rfl) rfl ?sH ?sT
        case sH=>
         simp only[List.toList_toArray,List.append_eq,List.cons_append,List.nil_append,AI,Act.put,List.setIfInBounds_toArray,List.set_cons_zero,List.set_cons_succ];refine A4 (by kernel_rfl) (fun w' hg=>?_) ?_
         ·go_simp;exact Sa _
         refine A4 (by kernel_rfl) (fun w' hg=>?_) ?_
         ·have hc:w'.cell? ⟨w.heap.size,0,none⟩=some (.int .i64 k1):=(HB2.out.1.grew hg).cell 0;exact AT 3 (.tmp 5) (fun w v h=>by simp[go_sem,h]) rfl (by kernel_rfl) hc ⟨by kernel_rfl,Sa _⟩
         refine A4 (by kernel_rfl) (fun w' hg=>?_) ?_
         ·go_simp;exact Sa _
         refine A4 (by kernel_rfl) (fun w' hg=>?_) ?_
         ·have hc:w'.cell? ⟨w1.heap.size,0,none⟩=some (.int .i64 k2):=(HB2.out.2.grew hg).cell 0;exact AT 3 (.tmp 7) (fun w v h=>by simp[go_sem,h]) rfl (by kernel_rfl) hc ⟨by kernel_rfl,Sa _⟩
         refine A4 (by kernel_rfl) (fun w' hg=>?_) ?_
         ·go_simp;exact Sa _
         refine A4 (by kernel_rfl) (fun w' hg=>?_) ?_
         ·go_simp;exact Sa _
         refine A4 (by kernel_rfl) (fun w' hg=>?_) ?_
         ·go_simp;exact Sa _
         refine A4 (by kernel_rfl) (fun w' hg=>?_) ?_
         ·have hc:w'.cell? ⟨w.heap.size,1,none⟩=some (.int .i64 f1):=(HB2.out.1.grew hg).cell 1;exact AT 3 (.tmp 11) (fun w v h=>by simp[go_sem,h]) rfl (by kernel_rfl) hc ⟨by kernel_rfl,Sa _⟩
         refine A4 (by kernel_rfl) (fun w' hg=>?_) ?_
         ·go_simp;exact Sa _
         refine A4 (by kernel_rfl) (fun w' hg=>?_) ?_
         ·have hc:w'.cell? ⟨w1.heap.size,1,none⟩=some (.int .i64 f2):=(HB2.out.2.grew hg).cell 1;exact AT 3 (.tmp 13) (fun w v h=>by simp[go_sem,h]) rfl (by kernel_rfl) hc ⟨by kernel_rfl,Sa _⟩
         refine A4 (by kernel_rfl) (fun w' hg=>?_) ?_
         ·go_simp;exact Sa _
         refine A4 (by kernel_rfl) (fun w' hg=>?_) ?_
         ·go_simp;exact Sa _
         refine A4 (by kernel_rfl) (fun w' hg=>?_) ?_
         ·go_simp;exact Sa _
         refine A4 (by kernel_rfl) (fun w' hg=>?_) ?_
         ·go_simp;exact Sa _
         refine A4 (by kernel_rfl) (fun w' hg=>?_) ?_
         ·have hc:w'.cell? ⟨w.heap.size,2,none⟩=some (.int .i64 d1):=(HB2.out.1.grew hg).cell 2;exact AT 3 (.tmp 18) (fun w v h=>by simp[go_sem,h]) rfl (by kernel_rfl) hc ⟨by kernel_rfl,Sa _⟩
         refine A4 (by kernel_rfl) (fun w' hg=>?_) ?_
         ·go_simp;exact Sa _
         refine A4 (by kernel_rfl) (fun w' hg=>?_) ?_
         ·have hc:w'.cell? ⟨w1.heap.size,2,none⟩=some (.int .i64 d2):=(HB2.out.2.grew hg).cell 2;exact AT 3 (.tmp 20) (fun w v h=>by simp[go_sem,h]) rfl (by kernel_rfl) hc ⟨by kernel_rfl,Sa _⟩
         refine A4 (by kernel_rfl) (fun w' hg=>?_) ?_
         ·go_simp;exact Sa _
         refine A4 (by kernel_rfl) (fun w' hg=>?_) ?_
         ·go_simp;exact Sa _
         refine A4 (by kernel_rfl) (fun w' hg=>?_) ?_
         ·go_simp;exact Sa _
         refine A4 (by kernel_rfl) (fun w' hg=>?_) ?_
         ·go_simp;exact Sa _
         refine A4 (by kernel_rfl) (fun w' hg=>?_) ?_
         ·have hc:w'.cell? ⟨w.heap.size,3,none⟩=some (.int .i64 o1):=(HB2.out.1.grew hg).cell 3;exact AT 3 (.tmp 25) (fun w v h=>by simp[go_sem,h]) rfl (by kernel_rfl) hc ⟨by kernel_rfl,Sa _⟩
         refine A4 (by kernel_rfl) (fun w' hg=>?_) ?_
         ·go_simp;exact Sa _
         refine A4 (by kernel_rfl) (fun w' hg=>?_) ?_
         ·have hc:w'.cell? ⟨w1.heap.size,3,none⟩=some (.int .i64 o2):=(HB2.out.2.grew hg).cell 3;exact AT 3 (.tmp 27) (fun w v h=>by simp[go_sem,h]) rfl (by kernel_rfl) hc ⟨by kernel_rfl,Sa _⟩
         refine A4 (by kernel_rfl) (fun w' hg=>?_) ?_
         ·go_simp;exact Sa _
         refine A4 (by kernel_rfl) (fun w' hg=>?_) ?_
         ·go_simp;exact Sa _
         refine A4 (by kernel_rfl) (fun w' hg=>?_) ?_
         ·go_simp;exact Sa _
         refine A4 (by kernel_rfl) (fun w' hg=>?_) ?_
         ·go_simp;exact Sa _
         refine A4 (by kernel_rfl) (fun w' hg=>?_) ?_
         ·have hc:w'.cell? ⟨w.heap.size,4,none⟩=some (.int .i64 q1):=(HB2.out.1.grew hg).cell 4;exact AT 3 (.tmp 32) (fun w v h=>by simp[go_sem,h]) rfl (by kernel_rfl) hc ⟨by kernel_rfl,Sa _⟩
         refine A4 (by kernel_rfl) (fun w' hg=>?_) ?_
         ·go_simp;exact Sa _
         refine A4 (by kernel_rfl) (fun w' hg=>?_) ?_
         ·have hc:w'.cell? ⟨w1.heap.size,4,none⟩=some (.int .i64 q2):=(HB2.out.2.grew hg).cell 4;exact AT 3 (.tmp 34) (fun w v h=>by simp[go_sem,h]) rfl (by kernel_rfl) hc ⟨by kernel_rfl,Sa _⟩
         refine A4 (by kernel_rfl) (fun w' hg=>?_) ?_
         ·go_simp;exact Sa _
         refine A4 (by kernel_rfl) (fun w' hg=>?_) ?_
         ·go_simp;exact Sa _
         refine A4 (by kernel_rfl) (fun w' hg=>?_) ?_
         ·go_simp;exact Sa _
         refine A4 (by kernel_rfl) (fun w' hg=>?_) ?_
         ·go_simp;exact Sa _
         refine A4 (by kernel_rfl) (fun w' hg=>?_) ?_
         ·refine wp_load_mid 24 (.tmp 39) rfl (w.heap.size) 5 rfl (AN n1 m1) _ ((HB2.out.1.grew hg).rangeN 5 _ rfl) Tryz.underlying24 rfl Ad ?_;exact⟨rfl,Sa _⟩
         refine A4 (by kernel_rfl) (fun w' hg=>?_) ?_
         ·go_simp;exact Sa _
         refine A4 (by kernel_rfl) (fun w' hg=>?_) ?_
         ·refine wp_load_mid 24 (.tmp 41) rfl (w1.heap.size) 5 rfl (AN n2 m2) _ ((HB2.out.2.grew hg).rangeN 5 _ rfl) Tryz.underlying24 rfl Ad ?_;exact⟨rfl,Sa _⟩
         refine A4 (by kernel_rfl) (fun w' hg=>?_) ?_
         ·have hne:=t5;go_simp;exact Sa _
         refine A4 (by kernel_rfl) (fun w' hg=>?_) ?_
         ·go_simp;exact Sa _
         refine A4 (by kernel_rfl) (fun w' hg=>?_) ?_
         ·go_simp;exact Sa _
         refine A4 (by kernel_rfl) (fun w' hg=>?_) ?_
         ·go_simp;exact Sa _
         refine A4 (by kernel_rfl) (fun w' hg=>?_) ?_
         ·have hc:w'.cell? ⟨w.heap.size,7,none⟩=some (.string nm1):=(HB2.out.1.grew hg).cell 7;exact AT 9 (.tmp 46) (fun w v h=>by simp[go_sem,h]) rfl (by kernel_rfl) hc ⟨by kernel_rfl,Sa _⟩
         refine A4 (by kernel_rfl) (fun w' hg=>?_) ?_
         ·go_simp;exact Sa _
         refine A4 (by kernel_rfl) (fun w' hg=>?_) ?_
         ·have hc:w'.cell? ⟨w1.heap.size,7,none⟩=some (.string nm2):=(HB2.out.2.grew hg).cell 7;exact AT 9 (.tmp 48) (fun w v h=>by simp[go_sem,h]) rfl (by kernel_rfl) hc ⟨by kernel_rfl,Sa _⟩
         refine A4 (by kernel_rfl) (fun w' hg=>?_) ?_
         ·have hne:=t6;go_simp;exact Sa _
         refine A4 (by kernel_rfl) (fun w' hg=>?_) ?_
         ·go_simp;exact Sa _
         refine A4 (by kernel_rfl) (fun w' hg=>?_) ?_
         ·go_simp;exact Sa _
         refine A4 (by kernel_rfl) (fun w' hg=>?_) ?_
         ·go_simp;exact Sa _
         refine A4 (by kernel_rfl) (fun w' hg=>?_) ?_
         ·have hc:w'.cell? ⟨w.heap.size,8,none⟩=some (.slice Am Nm Km):=(HB2.out.1.grew hg).cell 8;exact AT 25 (.tmp 53) (fun w v h=>by simp[go_sem,h]) rfl (by kernel_rfl) hc ⟨by kernel_rfl,Sa _⟩
         refine A4 (by kernel_rfl) (fun w' hg=>?_) ?_
         ·go_simp;exact Sa _
         refine A4 (by kernel_rfl) (fun w' hg=>?_) ?_
         ·have hc:w'.cell? ⟨w1.heap.size,8,none⟩=some (.slice Bm Pm Lm):=(HB2.out.2.grew hg).cell 8;exact AT 25 (.tmp 55) (fun w v h=>by simp[go_sem,h]) rfl (by kernel_rfl) hc ⟨by kernel_rfl,Sa _⟩
         refine A4 (by kernel_rfl) (fun w' hg=>?_) ?_
         ·go_simp;(with_reducible refine(HM.out _ (HG2.out.trans hg)).mono ?_);rintro e wq ⟨rfl,kq⟩;exact⟨rfl,kq⟩
         refine A4 (by kernel_rfl) (fun w' hg=>?_) ?_
         ·go_simp;exact Sa _
         refine A4 (by kernel_rfl) (fun w' hg=>?_) ?_
         ·go_simp;exact Sa _
         refine AA (by kernel_rfl) (by kernel_rfl) ?_;refine AA (by kernel_rfl) (by kernel_rfl) ?_;refine AA (by kernel_rfl) (by kernel_rfl) ?_;refine AA (by kernel_rfl) (by kernel_rfl) ?_;refine AA (by kernel_rfl) (by kernel_rfl) ?_;refine A4 (by kernel_rfl) (fun w' hg=>?_) ?_
         ·go_simp;exact Sa _
         refine A4 (by kernel_rfl) (fun w' hg=>?_) ?_
         ·go_simp;exact Sa _
         refine AA (by kernel_rfl) (by kernel_rfl) ?_;refine AA (by kernel_rfl) (by kernel_rfl) ?_;refine AA (by kernel_rfl) (by kernel_rfl) ?_;refine AA (by kernel_rfl) (by kernel_rfl) ?_;refine AA (by kernel_rfl) (by kernel_rfl) ?_;refine A4 (by kernel_rfl) (fun w' hg=>?_) ?_
         ·go_simp;exact Sa _
         refine A4 (by kernel_rfl) (fun w' hg=>?_) ?_
         ·go_simp;exact Sa _
         exact AQ
        case sT=>
         intro w9 hg9;simp only[List.toList_toArray,List.append_eq,List.cons_append,List.nil_append,AI,Act.put,List.setIfInBounds_toArray,List.set_cons_zero,List.set_cons_succ];go_wp2_with fail;go_ret;exact⟨by rw[HF.out];rfl,HG2.out.trans hg9⟩
       have t6:(nm1.toList==nm2.toList)=false:=by rw[KD];simpa using h6
       have HF:=S9 (show FV (.mk k1 f1 d1 o1 q1 n1 m1 nm1 ms1 by1 ks1) (.mk k2 f2 d2 o2 q2 n2 m2 nm2 ms2 Hy ks2)=false from by rw[DJ,SM (fun h=>h6 h.2.2.2.2.2.2.2.1)];rfl);clear h0 h1 h2 h3 h4 h5 h6 hr7' hr8';go_enter Tryz.func13,Tryz.ntmps13;go_upto_region 1 with(first|((with_reducible refine C8 29 (.tmp 0) rfl ?_);refine BW 29 (.tmp 0) (AE (.mk k1 f1 d1 o1 q1 n1 m1 nm1 ms1 by1 ks1) (.slice Am Nm Km) (.slice Ab Nb Kb) (.slice Ak Nk Kk)) rfl rfl (by kernel_rfl) ?_;intro w1 hb1 g1 s1;have HB1:=S9 hb1;have HG1:=S9 g1;have HS1:=S9 s1;clear hb1 g1 s1;simp only[Act.put,List.setIfInBounds_toArray,List.set_cons_zero,List.set_cons_succ])|((with_reducible refine C8 29 (.tmp 1) rfl ?_);refine BW 29 (.tmp 1) (AE (.mk k2 f2 d2 o2 q2 n2 m2 nm2 ms2 Hy ks2) (.slice Bm Pm Lm) (.slice Bb Pb Lb) (.slice Bk Pk Lk)) rfl rfl (by kernel_rfl) ?_;intro w2 hb2 g2 s2;have HB2:=S9 (SC (HB1.out.grew g2) hb2);have HG2:=S9 (HG1.out.trans g2);clear hb2 g2 s2;simp only[Act.put,List.setIfInBounds_toArray,List.set_cons_zero,List.set_cons_succ]));refine AK [.pointer (some ⟨w.heap.size,0,none⟩),.int .i64 k1,.pointer (some ⟨w1.heap.size,0,none⟩),.int .i64 k2,.bool true,.bool true,.pointer (some ⟨w.heap.size,1,none⟩),.int .i64 f1,.pointer (some ⟨w1.heap.size,1,none⟩),.int .i64 f2,.bool true,.bool true,.bool true,.pointer (some ⟨w.heap.size,2,none⟩),.int .i64 d1,.pointer (some ⟨w1.heap.size,2,none⟩),.int .i64 d2,.bool true,.bool true,.bool true,.pointer (some ⟨w.heap.size,3,none⟩),.int .i64 o1,.pointer (some ⟨w1.heap.size,3,none⟩),.int .i64 o2,.bool true,.bool true,.bool true,.pointer (some ⟨w.heap.size,4,none⟩),.int .i64 q1,.pointer (some ⟨w1.heap.size,4,none⟩),.int .i64 q2,.bool true,.bool true,.bool true,.pointer (some ⟨w.heap.size,5,none⟩),.agg (AN n1 m1).toArray,.pointer (some ⟨w1.heap.size,5,none⟩),.agg (AN n2 m2).toArray,.bool true,.bool true,.bool true,.pointer (some ⟨w.heap.size,7,none⟩),.string nm1,.pointer (some ⟨w1.heap.size,7,none⟩),.string nm2,.bool false,.bool false,.bool false,undef,undef,undef,undef,undef,.bool false,.bool false,undef,undef,undef,undef,undef,.bool false,.bool false,undef,undef,undef,undef,undef,.bool false,.bool false] _ (by kernel_rfl) (by kernel_rfl) rfl ?sH ?sT
       case sH=>
        simp only[List.toList_toArray,List.append_eq,List.cons_append,List.nil_append,AI,Act.put,List.setIfInBounds_toArray,List.set_cons_zero,List.set_cons_succ];refine A4 (by kernel_rfl) (fun w' hg=>?_) ?_
        ·go_simp;exact Sa _
        refine A4 (by kernel_rfl) (fun w' hg=>?_) ?_
        ·have hc:w'.cell? ⟨w.heap.size,0,none⟩=some (.int .i64 k1):=(HB2.out.1.grew hg).cell 0;exact AT 3 (.tmp 5) (fun w v h=>by simp[go_sem,h]) rfl (by kernel_rfl) hc ⟨by kernel_rfl,Sa _⟩
        refine A4 (by kernel_rfl) (fun w' hg=>?_) ?_
        ·go_simp;exact Sa _
        refine A4 (by kernel_rfl) (fun w' hg=>?_) ?_
        ·have hc:w'.cell? ⟨w1.heap.size,0,none⟩=some (.int .i64 k2):=(HB2.out.2.grew hg).cell 0;exact AT 3 (.tmp 7) (fun w v h=>by simp[go_sem,h]) rfl (by kernel_rfl) hc ⟨by kernel_rfl,Sa _⟩
        refine A4 (by kernel_rfl) (fun w' hg=>?_) ?_
        ·go_simp;exact Sa _
        refine A4 (by kernel_rfl) (fun w' hg=>?_) ?_
        ·go_simp;exact Sa _
        refine A4 (by kernel_rfl) (fun w' hg=>?_) ?_
        ·go_simp;exact Sa _
        refine A4 (by kernel_rfl) (fun w' hg=>?_) ?_
        ·have hc:w'.cell? ⟨w.heap.size,1,none⟩=some (.int .i64 f1):=(HB2.out.1.grew hg).cell 1;exact AT 3 (.tmp 11) (fun w v h=>by simp[go_sem,h]) rfl (by kernel_rfl) hc ⟨by kernel_rfl,Sa _⟩
        refine A4 (by kernel_rfl) (fun w' hg=>?_) ?_
        ·go_simp;exact Sa _
        refine A4 (by kernel_rfl) (fun w' hg=>?_) ?_
        ·have hc:w'.cell? ⟨w1.heap.size,1,none⟩=some (.int .i64 f2):=(HB2.out.2.grew hg).cell 1;exact AT 3 (.tmp 13) (fun w v h=>by simp[go_sem,h]) rfl (by kernel_rfl) hc ⟨by kernel_rfl,Sa _⟩
        refine A4 (by kernel_rfl) (fun w' hg=>?_) ?_
        ·go_simp;exact Sa _
        refine A4 (by kernel_rfl) (fun w' hg=>?_) ?_
        ·go_simp;exact Sa _
        refine A4 (by kernel_rfl) (fun w' hg=>?_) ?_
        ·go_simp;exact Sa _
        refine A4 (by kernel_rfl) (fun w' hg=>?_) ?_
        ·go_simp;exact Sa _
        refine A4 (by kernel_rfl) (fun w' hg=>?_) ?_
        ·have hc:w'.cell? ⟨w.heap.size,2,none⟩=some (.int .i64 d1):=(HB2.out.1.grew hg).cell 2;exact AT 3 (.tmp 18) (fun w v h=>by simp[go_sem,h]) rfl (by kernel_rfl) hc ⟨by kernel_rfl,Sa _⟩
        refine A4 (by kernel_rfl) (fun w' hg=>?_) ?_
        ·go_simp;exact Sa _
        refine A4 (by kernel_rfl) (fun w' hg=>?_) ?_
        ·have hc:w'.cell? ⟨w1.heap.size,2,none⟩=some (.int .i64 d2):=(HB2.out.2.grew hg).cell 2;exact AT 3 (.tmp 20) (fun w v h=>by simp[go_sem,h]) rfl (by kernel_rfl) hc ⟨by kernel_rfl,Sa _⟩
        refine A4 (by kernel_rfl) (fun w' hg=>?_) ?_
        ·go_simp;exact Sa _
        refine A4 (by kernel_rfl) (fun w' hg=>?_) ?_
        ·go_simp;exact Sa _
        refine A4 (by kernel_rfl) (fun w' hg=>?_) ?_
        ·go_simp;exact Sa _
        refine A4 (by kernel_rfl) (fun w' hg=>?_) ?_
        ·go_simp;exact Sa _
        refine A4 (by kernel_rfl) (fun w' hg=>?_) ?_
        ·have hc:w'.cell? ⟨w.heap.size,3,none⟩=some (.int .i64 o1):=(HB2.out.1.grew hg).cell 3;exact AT 3 (.tmp 25) (fun w v h=>by simp[go_sem,h]) rfl (by kernel_rfl) hc ⟨by kernel_rfl,Sa _⟩
        refine A4 (by kernel_rfl) (fun w' hg=>?_) ?_
        ·go_simp;exact Sa _
        refine A4 (by kernel_rfl) (fun w' hg=>?_) ?_
        ·have hc:w'.cell? ⟨w1.heap.size,3,none⟩=some (.int .i64 o2):=(HB2.out.2.grew hg).cell 3;exact AT 3 (.tmp 27) (fun w v h=>by simp[go_sem,h]) rfl (by kernel_rfl) hc ⟨by kernel_rfl,Sa _⟩
        refine A4 (by kernel_rfl) (fun w' hg=>?_) ?_
        ·go_simp;exact Sa _
        refine A4 (by kernel_rfl) (fun w' hg=>?_) ?_
        ·go_simp;exact Sa _
        refine A4 (by kernel_rfl) (fun w' hg=>?_) ?_
        ·go_simp;exact Sa _
        refine A4 (by kernel_rfl) (fun w' hg=>?_) ?_
        ·go_simp;exact Sa _
        refine A4 (by kernel_rfl) (fun w' hg=>?_) ?_
        ·have hc:w'.cell? ⟨w.heap.size,4,none⟩=some (.int .i64 q1):=(HB2.out.1.grew hg).cell 4;exact AT 3 (.tmp 32) (fun w v h=>by simp[go_sem,h]) rfl (by kernel_rfl) hc ⟨by kernel_rfl,Sa _⟩
        refine A4 (by kernel_rfl) (fun w' hg=>?_) ?_
        ·go_simp;exact Sa _
        refine A4 (by kernel_rfl) (fun w' hg=>?_) ?_
        ·have hc:w'.cell? ⟨w1.heap.size,4,none⟩=some (.int .i64 q2):=(HB2.out.2.grew hg).cell 4;exact AT 3 (.tmp 34) (fun w v h=>by simp[go_sem,h]) rfl (by kernel_rfl) hc ⟨by kernel_rfl,Sa _⟩
        refine A4 (by kernel_rfl) (fun w' hg=>?_) ?_
        ·go_simp;exact Sa _
        refine A4 (by kernel_rfl) (fun w' hg=>?_) ?_
        ·go_simp;exact Sa _
        refine A4 (by kernel_rfl) (fun w' hg=>?_) ?_
        ·go_simp;exact Sa _
        refine A4 (by kernel_rfl) (fun w' hg=>?_) ?_
        ·go_simp;exact Sa _
        refine A4 (by kernel_rfl) (fun w' hg=>?_) ?_
        ·refine wp_load_mid 24 (.tmp 39) rfl (w.heap.size) 5 rfl (AN n1 m1) _ ((HB2.out.1.grew hg).rangeN 5 _ rfl) Tryz.underlying24 rfl Ad ?_;exact⟨rfl,Sa _⟩
        refine A4 (by kernel_rfl) (fun w' hg=>?_) ?_
        ·go_simp;exact Sa _
        refine A4 (by kernel_rfl) (fun w' hg=>?_) ?_
        ·refine wp_load_mid 24 (.tmp 41) rfl (w1.heap.size) 5 rfl (AN n2 m2) _ ((HB2.out.2.grew hg).rangeN 5 _ rfl) Tryz.underlying24 rfl Ad ?_;exact⟨rfl,Sa _⟩
        refine A4 (by kernel_rfl) (fun w' hg=>?_) ?_
        ·have hne:=t5;go_simp;exact Sa _
        refine A4 (by kernel_rfl) (fun w' hg=>?_) ?_
        ·go_simp;exact Sa _
        refine A4 (by kernel_rfl) (fun w' hg=>?_) ?_
        ·go_simp;exact Sa _
        refine A4 (by kernel_rfl) (fun w' hg=>?_) ?_
        ·go_simp;exact Sa _
        refine A4 (by kernel_rfl) (fun w' hg=>?_) ?_
        ·have hc:w'.cell? ⟨w.heap.size,7,none⟩=some (.string nm1):=(HB2.out.1.grew hg).cell 7;exact AT 9 (.tmp 46) (fun w v h=>by simp[go_sem,h]) rfl (by kernel_rfl) hc ⟨by kernel_rfl,Sa _⟩
        refine A4 (by kernel_rfl) (fun w' hg=>?_) ?_
        ·go_simp;exact Sa _
        refine A4 (by kernel_rfl) (fun w' hg=>?_) ?_
        ·have hc:w'.cell? ⟨w1.heap.size,7,none⟩=some (.string nm2):=(HB2.out.2.grew hg).cell 7;exact AT 9 (.tmp 48) (fun w v h=>by simp[go_sem,h]) rfl (by kernel_rfl) hc ⟨by kernel_rfl,Sa _⟩
        refine A4 (by kernel_rfl) (fun w' hg=>?_) ?_
        ·have hne:=t6;go_simp;exact Sa _
        refine A4 (by kernel_rfl) (fun w' hg=>?_) ?_
        ·go_simp;exact Sa _
        refine A4 (by kernel_rfl) (fun w' hg=>?_) ?_
        ·go_simp;exact Sa _
        refine AA (by kernel_rfl) (by kernel_rfl) ?_;refine AA (by kernel_rfl) (by kernel_rfl) ?_;refine AA (by kernel_rfl) (by kernel_rfl) ?_;refine AA (by kernel_rfl) (by kernel_rfl) ?_;refine AA (by kernel_rfl) (by kernel_rfl) ?_;refine A4 (by kernel_rfl) (fun w' hg=>?_) ?_
        ·go_simp;exact Sa _
        refine A4 (by kernel_rfl) (fun w' hg=>?_) ?_
        ·go_simp;exact Sa _
        refine AA (by kernel_rfl) (by kernel_rfl) ?_;refine AA (by kernel_rfl) (by kernel_rfl) ?_;refine AA (by kernel_rfl) (by kernel_rfl) ?_;refine AA (by kernel_rfl) (by kernel_rfl) ?_;refine AA (by kernel_rfl) (by kernel_rfl) ?_;refine A4 (by kernel_rfl) (fun w' hg=>?_) ?_
        ·go_simp;exact Sa _
        refine A4 (by kernel_rfl) (fun w' hg=>?_) ?_
        ·go_simp;exact Sa _
        refine AA (by kernel_rfl) (by kernel_rfl) ?_;refine AA (by kernel_rfl) (by kernel_rfl) ?_;refine AA (by kernel_rfl) (by kernel_rfl) ?_;refine AA (by kernel_rfl) (by kernel_rfl) ?_;refine AA (by kernel_rfl) (by kernel_rfl) ?_;refine A4 (by kernel_rfl) (fun w' hg=>?_) ?_
        ·go_simp;exact Sa _
        refine A4 (by kernel_rfl) (fun w' hg=>?_) ?_
        ·go_simp;exact Sa _
        exact AQ
       case sT=>
        intro w9 hg9;simp only[List.toList_toArray,List.append_eq,List.cons_append,List.nil_append,AI,Act.put,List.setIfInBounds_toArray,List.set_cons_zero,List.set_cons_succ];go_wp2_with fail;go_ret;exact⟨by rw[HF.out];rfl,HG2.out.trans hg9⟩
      have t5:∀w,(binOp .eql 24 (.agg (AN n1 m1).toArray) (.agg (AN n2 m2).toArray)).run Tryz.prog w= .ok (.bool false) w:=fun w=>Eo n1 m1 n2 m2 false (by simpa using h5) w
      have HF:=S9 (show FV (.mk k1 f1 d1 o1 q1 n1 m1 nm1 ms1 by1 ks1) (.mk k2 f2 d2 o2 q2 n2 m2 nm2 ms2 Hy ks2)=false from by rw[DJ,SM (fun h=>h5 ⟨h.2.2.2.2.2.1,h.2.2.2.2.2.2.1⟩)];rfl);clear h0 h1 h2 h3 h4 h5 hr7' hr8';go_enter Tryz.func13,Tryz.ntmps13;go_upto_region 1 with(first|((with_reducible refine C8 29 (.tmp 0) rfl ?_);refine BW 29 (.tmp 0) (AE (.mk k1 f1 d1 o1 q1 n1 m1 nm1 ms1 by1 ks1) (.slice Am Nm Km) (.slice Ab Nb Kb) (.slice Ak Nk Kk)) rfl rfl (by kernel_rfl) ?_;intro w1 hb1 g1 s1;have HB1:=S9 hb1;have HG1:=S9 g1;have HS1:=S9 s1;clear hb1 g1 s1;simp only[Act.put,List.setIfInBounds_toArray,List.set_cons_zero,List.set_cons_succ])|((with_reducible refine C8 29 (.tmp 1) rfl ?_);refine BW 29 (.tmp 1) (AE (.mk k2 f2 d2 o2 q2 n2 m2 nm2 ms2 Hy ks2) (.slice Bm Pm Lm) (.slice Bb Pb Lb) (.slice Bk Pk Lk)) rfl rfl (by kernel_rfl) ?_;intro w2 hb2 g2 s2;have HB2:=S9 (SC (HB1.out.grew g2) hb2);have HG2:=S9 (HG1.out.trans g2);clear hb2 g2 s2;simp only[Act.put,List.setIfInBounds_toArray,List.set_cons_zero,List.set_cons_succ]));refine AK [.pointer (some ⟨w.heap.size,0,none⟩),.int .i64 k1,.pointer (some ⟨w1.heap.size,0,none⟩),.int .i64 k2,.bool true,.bool true,.pointer (some ⟨w.heap.size,1,none⟩),.int .i64 f1,.pointer (some ⟨w1.heap.size,1,none⟩),.int .i64 f2,.bool true,.bool true,.bool true,.pointer (some ⟨w.heap.size,2,none⟩),.int .i64 d1,.pointer (some ⟨w1.heap.size,2,none⟩),.int .i64 d2,.bool true,.bool true,.bool true,.pointer (some ⟨w.heap.size,3,none⟩),.int .i64 o1,.pointer (some ⟨w1.heap.size,3,none⟩),.int .i64 o2,.bool true,.bool true,.bool true,.pointer (some ⟨w.heap.size,4,none⟩),.int .i64 q1,.pointer (some ⟨w1.heap.size,4,none⟩),.int .i64 q2,.bool true,.bool true,.bool true,.pointer (some ⟨w.heap.size,5,none⟩),.agg (AN n1 m1).toArray,.pointer (some ⟨w1.heap.size,5,none⟩),.agg (AN n2 m2).toArray,.bool false,.bool false,.bool false,undef,undef,undef,undef,undef,.bool false,.bool false,undef,undef,undef,undef,undef,.bool false,.bool false,undef,undef,undef,undef,undef,.bool false,.bool false,undef,undef,undef,undef,undef,.bool false,.bool false] _ (by kernel_rfl) (by kernel_rfl) rfl ?sH ?sT
      case sH=>
       simp only[List.toList_toArray,List.append_eq,List.cons_append,List.nil_append,AI,Act.put,List.setIfInBounds_toArray,List.set_cons_zero,List.set_cons_succ];refine A4 (by kernel_rfl) (fun w' hg=>?_) ?_
       ·go_simp;exact Sa _
       refine A4 (by kernel_rfl) (fun w' hg=>?_) ?_
       ·have hc:w'.cell? ⟨w.heap.size,0,none⟩=some (.int .i64 k1):=(HB2.out.1.grew hg).cell 0;exact AT 3 (.tmp 5) (fun w v h=>by simp[go_sem,h]) rfl (by kernel_rfl) hc ⟨by kernel_rfl,Sa _⟩
       refine A4 (by kernel_rfl) (fun w' hg=>?_) ?_
       ·go_simp;exact Sa _
       refine A4 (by kernel_rfl) (fun w' hg=>?_) ?_
       ·have hc:w'.cell? ⟨w1.heap.size,0,none⟩=some (.int .i64 k2):=(HB2.out.2.grew hg).cell 0;exact AT 3 (.tmp 7) (fun w v h=>by simp[go_sem,h]) rfl (by kernel_rfl) hc ⟨by kernel_rfl,Sa _⟩
       refine A4 (by kernel_rfl) (fun w' hg=>?_) ?_
       ·go_simp;exact Sa _
       refine A4 (by kernel_rfl) (fun w' hg=>?_) ?_
       ·go_simp;exact Sa _
       refine A4 (by kernel_rfl) (fun w' hg=>?_) ?_
       ·go_simp;exact Sa _
       refine A4 (by kernel_rfl) (fun w' hg=>?_) ?_
       ·have hc:w'.cell? ⟨w.heap.size,1,none⟩=some (.int .i64 f1):=(HB2.out.1.grew hg).cell 1;exact AT 3 (.tmp 11) (fun w v h=>by simp[go_sem,h]) rfl (by kernel_rfl) hc ⟨by kernel_rfl,Sa _⟩
       refine A4 (by kernel_rfl) (fun w' hg=>?_) ?_
       ·go_simp;exact Sa _
       refine A4 (by kernel_rfl) (fun w' hg=>?_) ?_
       ·have hc:w'.cell? ⟨w1.heap.size,1,none⟩=some (.int .i64 f2):=(HB2.out.2.grew hg).cell 1;exact AT 3 (.tmp 13) (fun w v h=>by simp[go_sem,h]) rfl (by kernel_rfl) hc ⟨by kernel_rfl,Sa _⟩
       refine A4 (by kernel_rfl) (fun w' hg=>?_) ?_
       ·go_simp;exact Sa _
       refine A4 (by kernel_rfl) (fun w' hg=>?_) ?_
       ·go_simp;exact Sa _
       refine A4 (by kernel_rfl) (fun w' hg=>?_) ?_
       ·go_simp;exact Sa _
       refine A4 (by kernel_rfl) (fun w' hg=>?_) ?_
       ·go_simp;exact Sa _
       refine A4 (by kernel_rfl) (fun w' hg=>?_) ?_
       ·have hc:w'.cell? ⟨w.heap.size,2,none⟩=some (.int .i64 d1):=(HB2.out.1.grew hg).cell 2;exact AT 3 (.tmp 18) (fun w v h=>by simp[go_sem,h]) rfl (by kernel_rfl) hc ⟨by kernel_rfl,Sa _⟩
       refine A4 (by kernel_rfl) (fun w' hg=>?_) ?_
       ·go_simp;exact Sa _
       refine A4 (by kernel_rfl) (fun w' hg=>?_) ?_
       ·have hc:w'.cell? ⟨w1.heap.size,2,none⟩=some (.int .i64 d2):=(HB2.out.2.grew hg).cell 2;exact AT 3 (.tmp 20) (fun w v h=>by simp[go_sem,h]) rfl (by kernel_rfl) hc ⟨by kernel_rfl,Sa _⟩
       refine A4 (by kernel_rfl) (fun w' hg=>?_) ?_
       ·go_simp;exact Sa _
       refine A4 (by kernel_rfl) (fun w' hg=>?_) ?_
       ·go_simp;exact Sa _
       refine A4 (by kernel_rfl) (fun w' hg=>?_) ?_
       ·go_simp;exact Sa _
       refine A4 (by kernel_rfl) (fun w' hg=>?_) ?_
       ·go_simp;exact Sa _
       refine A4 (by kernel_rfl) (fun w' hg=>?_) ?_
       ·have hc:w'.cell? ⟨w.heap.size,3,none⟩=some (.int .i64 o1):=(HB2.out.1.grew hg).cell 3;exact AT 3 (.tmp 25) (fun w v h=>by simp[go_sem,h]) rfl (by kernel_rfl) hc ⟨by kernel_rfl,Sa _⟩
       refine A4 (by kernel_rfl) (fun w' hg=>?_) ?_
       ·go_simp;exact Sa _
       refine A4 (by kernel_rfl) (fun w' hg=>?_) ?_
       ·have hc:w'.cell? ⟨w1.heap.size,3,none⟩=some (.int .i64 o2):=(HB2.out.2.grew hg).cell 3;exact AT 3 (.tmp 27) (fun w v h=>by simp[go_sem,h]) rfl (by kernel_rfl) hc ⟨by kernel_rfl,Sa _⟩
       refine A4 (by kernel_rfl) (fun w' hg=>?_) ?_
       ·go_simp;exact Sa _
       refine A4 (by kernel_rfl) (fun w' hg=>?_) ?_
       ·go_simp;exact Sa _
       refine A4 (by kernel_rfl) (fun w' hg=>?_) ?_
       ·go_simp;exact Sa _
       refine A4 (by kernel_rfl) (fun w' hg=>?_) ?_
       ·go_simp;exact Sa _
       refine A4 (by kernel_rfl) (fun w' hg=>?_) ?_
       ·have hc:w'.cell? ⟨w.heap.size,4,none⟩=some (.int .i64 q1):=(HB2.out.1.grew hg).cell 4;exact AT 3 (.tmp 32) (fun w v h=>by simp[go_sem,h]) rfl (by kernel_rfl) hc ⟨by kernel_rfl,Sa _⟩
       refine A4 (by kernel_rfl) (fun w' hg=>?_) ?_
       ·go_simp;exact Sa _
       refine A4 (by kernel_rfl) (fun w' hg=>?_) ?_
       ·have hc:w'.cell? ⟨w1.heap.size,4,none⟩=some (.int .i64 q2):=(HB2.out.2.grew hg).cell 4;exact AT 3 (.tmp 34) (fun w v h=>by simp[go_sem,h]) rfl (by kernel_rfl) hc ⟨by kernel_rfl,Sa _⟩
       refine A4 (by kernel_rfl) (fun w' hg=>?_) ?_
       ·go_simp;exact Sa _
       refine A4 (by kernel_rfl) (fun w' hg=>?_) ?_
       ·go_simp;exact Sa _
       refine A4 (by kernel_rfl) (fun w' hg=>?_) ?_
       ·go_simp;exact Sa _
       refine A4 (by kernel_rfl) (fun w' hg=>?_) ?_
       ·go_simp;exact Sa _
       refine A4 (by kernel_rfl) (fun w' hg=>?_) ?_
       ·refine wp_load_mid 24 (.tmp 39) rfl (w.heap.size) 5 rfl (AN n1 m1) _ ((HB2.out.1.grew hg).rangeN 5 _ rfl) Tryz.underlying24 rfl Ad ?_;exact⟨rfl,Sa _⟩
       refine A4 (by kernel_rfl) (fun w' hg=>?_) ?_
       ·go_simp;exact Sa _
       refine A4 (by kernel_rfl) (fun w' hg=>?_) ?_
       ·refine wp_load_mid 24 (.tmp 41) rfl (w1.heap.size) 5 rfl (AN n2 m2) _ ((HB2.out.2.grew hg).rangeN 5 _ rfl) Tryz.underlying24 rfl Ad ?_;exact⟨rfl,Sa _⟩
       refine A4 (by kernel_rfl) (fun w' hg=>?_) ?_
       ·have hne:=t5;go_simp;exact Sa _
       refine A4 (by kernel_rfl) (fun w' hg=>?_) ?_
       ·go_simp;exact Sa _
       refine A4 (by kernel_rfl) (fun w' hg=>?_) ?_
       ·go_simp;exact Sa _
       refine AA (by kernel_rfl) (by kernel_rfl) ?_;refine AA (by kernel_rfl) (by kernel_rfl) ?_;refine AA (by kernel_rfl) (by kernel_rfl) ?_;refine AA (by kernel_rfl) (by kernel_rfl) ?_;refine AA (by kernel_rfl) (by kernel_rfl) ?_;refine A4 (by kernel_rfl) (fun w' hg=>?_) ?_
       ·go_simp;exact Sa _
       refine A4 (by kernel_rfl) (fun w' hg=>?_) ?_
       ·go_simp;exact Sa _
       refine AA (by kernel_rfl) (by kernel_rfl) ?_;refine AA (by kernel_rfl) (by kernel_rfl) ?_;refine AA (by kernel_rfl) (by kernel_rfl) ?_;refine AA (by kernel_rfl) (by kernel_rfl) ?_;refine AA (by kernel_rfl) (by kernel_rfl) ?_;refine A4 (by kernel_rfl) (fun w' hg=>?_) ?_
       ·go_simp;exact Sa _
       refine A4 (by kernel_rfl) (fun w' hg=>?_) ?_
       ·go_simp;exact Sa _
       refine AA (by kernel_rfl) (by kernel_rfl) ?_;refine AA (by kernel_rfl) (by kernel_rfl) ?_;refine AA (by kernel_rfl) (by kernel_rfl) ?_;refine AA (by kernel_rfl) (by kernel_rfl) ?_;refine AA (by kernel_rfl) (by kernel_rfl) ?_;refine A4 (by kernel_rfl) (fun w' hg=>?_) ?_
       ·go_simp;exact Sa _
       refine A4 (by kernel_rfl) (fun w' hg=>?_) ?_
       ·go_simp;exact Sa _
       refine AA (by kernel_rfl) (by kernel_rfl) ?_;refine AA (by kernel_rfl) (by kernel_rfl) ?_;refine AA (by kernel_rfl) (by kernel_rfl) ?_;refine AA (by kernel_rfl) (by kernel_rfl) ?_;refine AA (by kernel_rfl) (by kernel_rfl) ?_;refine A4 (by kernel_rfl) (fun w' hg=>?_) ?_
       ·go_simp;exact Sa _
       refine A4 (by kernel_rfl) (fun w' hg=>?_) ?_
       ·go_simp;exact Sa _
       exact AQ
      case sT=>
       intro w9 hg9;simp only[List.toList_toArray,List.append_eq,List.cons_append,List.nil_append,AI,Act.put,List.setIfInBounds_toArray,List.set_cons_zero,List.set_cons_succ];go_wp2_with fail;go_ret;exact⟨by rw[HF.out];rfl,HG2.out.trans hg9⟩
     have t4:(q1==q2)=false:=by rw[SA];exact h4
     have HF:=S9 (show FV (.mk k1 f1 d1 o1 q1 n1 m1 nm1 ms1 by1 ks1) (.mk k2 f2 d2 o2 q2 n2 m2 nm2 ms2 Hy ks2)=false from by rw[DJ,SM (fun h=>h4 h.2.2.2.2.1)];rfl);clear h0 h1 h2 h3 h4 hr7' hr8';go_enter Tryz.func13,Tryz.ntmps13;go_upto_region 1 with(first|((with_reducible refine C8 29 (.tmp 0) rfl ?_);refine BW 29 (.tmp 0) (AE (.mk k1 f1 d1 o1 q1 n1 m1 nm1 ms1 by1 ks1) (.slice Am Nm Km) (.slice Ab Nb Kb) (.slice Ak Nk Kk)) rfl rfl (by kernel_rfl) ?_;intro w1 hb1 g1 s1;have HB1:=S9 hb1;have HG1:=S9 g1;have HS1:=S9 s1;clear hb1 g1 s1;simp only[Act.put,List.setIfInBounds_toArray,List.set_cons_zero,List.set_cons_succ])|((with_reducible refine C8 29 (.tmp 1) rfl ?_);refine BW 29 (.tmp 1) (AE (.mk k2 f2 d2 o2 q2 n2 m2 nm2 ms2 Hy ks2) (.slice Bm Pm Lm) (.slice Bb Pb Lb) (.slice Bk Pk Lk)) rfl rfl (by kernel_rfl) ?_;intro w2 hb2 g2 s2;have HB2:=S9 (SC (HB1.out.grew g2) hb2);have HG2:=S9 (HG1.out.trans g2);clear hb2 g2 s2;simp only[Act.put,List.setIfInBounds_toArray,List.set_cons_zero,List.set_cons_succ]));refine AK [.pointer (some ⟨w.heap.size,0,none⟩),.int .i64 k1,.pointer (some ⟨w1.heap.size,0,none⟩),.int .i64 k2,.bool true,.bool true,.pointer (some ⟨w.heap.size,1,none⟩),.int .i64 f1,.pointer (some ⟨w1.heap.size,1,none⟩),.int .i64 f2,.bool true,.bool true,.bool true,.pointer (some ⟨w.heap.size,2,none⟩),.int .i64 d1,.pointer (some ⟨w1.heap.size,2,none⟩),.int .i64 d2,.bool true,.bool true,.bool true,.pointer (some ⟨w.heap.size,3,none⟩),.int .i64 o1,.pointer (some ⟨w1.heap.size,3,none⟩),.int .i64 o2,.bool true,.bool true,.bool true,.pointer (some ⟨w.heap.size,4,none⟩),.int .i64 q1,.pointer (some ⟨w1.heap.size,4,none⟩),.int .i64 q2,.bool false,.bool false,.bool false,undef,undef,undef,undef,undef,.bool false,.bool false,undef,undef,undef,undef,undef,.bool false,.bool false,undef,undef,undef,undef,undef,.bool false,.bool false,undef,undef,undef,undef,undef,.bool false,.bool false,undef,undef,undef,undef,undef,.bool false,.bool false] _ (by kernel_rfl) (by kernel_rfl) rfl ?sH ?sT
     case sH=>
      simp only[List.toList_toArray,List.append_eq,List.cons_append,List.nil_append,AI,Act.put,List.setIfInBounds_toArray,List.set_cons_zero,List.set_cons_succ];refine A4 (by kernel_rfl) (fun w' hg=>?_) ?_
      ·go_simp;exact Sa _
      refine A4 (by kernel_rfl) (fun w' hg=>?_) ?_
      ·have hc:w'.cell? ⟨w.heap.size,0,none⟩=some (.int .i64 k1):=(HB2.out.1.grew hg).cell 0;exact AT 3 (.tmp 5) (fun w v h=>by simp[go_sem,h]) rfl (by kernel_rfl) hc ⟨by kernel_rfl,Sa _⟩
      refine A4 (by kernel_rfl) (fun w' hg=>?_) ?_
      ·go_simp;exact Sa _
      refine A4 (by kernel_rfl) (fun w' hg=>?_) ?_
      ·have hc:w'.cell? ⟨w1.heap.size,0,none⟩=some (.int .i64 k2):=(HB2.out.2.grew hg).cell 0;exact AT 3 (.tmp 7) (fun w v h=>by simp[go_sem,h]) rfl (by kernel_rfl) hc ⟨by kernel_rfl,Sa _⟩
      refine A4 (by kernel_rfl) (fun w' hg=>?_) ?_
      ·go_simp;exact Sa _
      refine A4 (by kernel_rfl) (fun w' hg=>?_) ?_
      ·go_simp;exact Sa _
      refine A4 (by kernel_rfl) (fun w' hg=>?_) ?_
      ·go_simp;exact Sa _
      refine A4 (by kernel_rfl) (fun w' hg=>?_) ?_
      ·have hc:w'.cell? ⟨w.heap.size,1,none⟩=some (.int .i64 f1):=(HB2.out.1.grew hg).cell 1;exact AT 3 (.tmp 11) (fun w v h=>by simp[go_sem,h]) rfl (by kernel_rfl) hc ⟨by kernel_rfl,Sa _⟩
      refine A4 (by kernel_rfl) (fun w' hg=>?_) ?_
      ·go_simp;exact Sa _
      refine A4 (by kernel_rfl) (fun w' hg=>?_) ?_
      ·have hc:w'.cell? ⟨w1.heap.size,1,none⟩=some (.int .i64 f2):=(HB2.out.2.grew hg).cell 1;exact AT 3 (.tmp 13) (fun w v h=>by simp[go_sem,h]) rfl (by kernel_rfl) hc ⟨by kernel_rfl,Sa _⟩
      refine A4 (by kernel_rfl) (fun w' hg=>?_) ?_
      ·go_simp;exact Sa _
      refine A4 (by kernel_rfl) (fun w' hg=>?_) ?_
      ·go_simp;exact Sa _
      refine A4 (by kernel_rfl) (fun w' hg=>?_) ?_
      ·go_simp;exact Sa _
      refine A4 (by kernel_rfl) (fun w' hg=>?_) ?_
      ·go_simp;exact Sa _
      refine A4 (by kernel_rfl) (fun w' hg=>?_) ?_
      ·have hc:w'.cell? ⟨w.heap.size,2,none⟩=some (.int .i64 d1):=(HB2.out.1.grew hg).cell 2;exact AT 3 (.tmp 18) (fun w v h=>by simp[go_sem,h]) rfl (by kernel_rfl) hc ⟨by kernel_rfl,Sa _⟩
      refine A4 (by kernel_rfl) (fun w' hg=>?_) ?_
      ·go_simp;exact Sa _
      refine A4 (by kernel_rfl) (fun w' hg=>?_) ?_
      ·have hc:w'.cell? ⟨w1.heap.size,2,none⟩=some (.int .i64 d2):=(HB2.out.2.grew hg).cell 2;exact AT 3 (.tmp 20) (fun w v h=>by simp[go_sem,h]) rfl (by kernel_rfl) hc ⟨by kernel_rfl,Sa _⟩
      refine A4 (by kernel_rfl) (fun w' hg=>?_) ?_
      ·go_simp;exact Sa _
      refine A4 (by kernel_rfl) (fun w' hg=>?_) ?_
      ·go_simp;exact Sa _
      refine A4 (by kernel_rfl) (fun w' hg=>?_) ?_
      ·go_simp;exact Sa _
      refine A4 (by kernel_rfl) (fun w' hg=>?_) ?_
      ·go_simp;exact Sa _
      refine A4 (by kernel_rfl) (fun w' hg=>?_) ?_
      ·have hc:w'.cell? ⟨w.heap.size,3,none⟩=some (.int .i64 o1):=(HB2.out.1.grew hg).cell 3;exact AT 3 (.tmp 25) (fun w v h=>by simp[go_sem,h]) rfl (by kernel_rfl) hc ⟨by kernel_rfl,Sa _⟩
      refine A4 (by kernel_rfl) (fun w' hg=>?_) ?_
      ·go_simp;exact Sa _
      refine A4 (by kernel_rfl) (fun w' hg=>?_) ?_
      ·have hc:w'.cell? ⟨w1.heap.size,3,none⟩=some (.int .i64 o2):=(HB2.out.2.grew hg).cell 3;exact AT 3 (.tmp 27) (fun w v h=>by simp[go_sem,h]) rfl (by kernel_rfl) hc ⟨by kernel_rfl,Sa _⟩
      refine A4 (by kernel_rfl) (fun w' hg=>?_) ?_
      ·go_simp;exact Sa _
      refine A4 (by kernel_rfl) (fun w' hg=>?_) ?_
      ·go_simp;exact Sa _
      refine A4 (by kernel_rfl) (fun w' hg=>?_) ?_
      ·go_simp;exact Sa _
      refine A4 (by kernel_rfl) (fun w' hg=>?_) ?_
      ·go_simp;exact Sa _
      refine A4 (by kernel_rfl) (fun w' hg=>?_) ?_
      ·have hc:w'.cell? ⟨w.heap.size,4,none⟩=some (.int .i64 q1):=(HB2.out.1.grew hg).cell 4;exact AT 3 (.tmp 32) (fun w v h=>by simp[go_sem,h]) rfl (by kernel_rfl) hc ⟨by kernel_rfl,Sa _⟩
      refine A4 (by kernel_rfl) (fun w' hg=>?_) ?_
      ·go_simp;exact Sa _
      refine A4 (by kernel_rfl) (fun w' hg=>?_) ?_
      ·have hc:w'.cell? ⟨w1.heap.size,4,none⟩=some (.int .i64 q2):=(HB2.out.2.grew hg).cell 4;exact AT 3 (.tmp 34) (fun w v h=>by simp[go_sem,h]) rfl (by kernel_rfl) hc ⟨by kernel_rfl,Sa _⟩
      refine A4 (by kernel_rfl) (fun w' hg=>?_) ?_
      ·go_simp;exact Sa _
      refine A4 (by kernel_rfl) (fun w' hg=>?_) ?_
      ·go_simp;exact Sa _
      refine A4 (by kernel_rfl) (fun w' hg=>?_) ?_
      ·go_simp;exact Sa _
      refine AA (by kernel_rfl) (by kernel_rfl) ?_;refine AA (by kernel_rfl) (by kernel_rfl) ?_;refine AA (by kernel_rfl) (by kernel_rfl) ?_;refine AA (by kernel_rfl) (by kernel_rfl) ?_;refine AA (by kernel_rfl) (by kernel_rfl) ?_;refine A4 (by kernel_rfl) (fun w' hg=>?_) ?_
      ·go_simp;exact Sa _
      refine A4 (by kernel_rfl) (fun w' hg=>?_) ?_
      ·go_simp;exact Sa _
      refine AA (by kernel_rfl) (by kernel_rfl) ?_;refine AA (by kernel_rfl) (by kernel_rfl) ?_;refine AA (by kernel_rfl) (by kernel_rfl) ?_;refine AA (by kernel_rfl) (by kernel_rfl) ?_;refine AA (by kernel_rfl) (by kernel_rfl) ?_;refine A4 (by kernel_rfl) (fun w' hg=>?_) ?_
      ·go_simp;exact Sa _
      refine A4 (by kernel_rfl) (fun w' hg=>?_) ?_
      ·go_simp;exact Sa _
      refine AA (by kernel_rfl) (by kernel_rfl) ?_;refine AA (by kernel_rfl) (by kernel_rfl) ?_;refine AA (by kernel_rfl) (by kernel_rfl) ?_;refine AA (by kernel_rfl) (by kernel_rfl) ?_;refine AA (by kernel_rfl) (by kernel_rfl) ?_;refine A4 (by kernel_rfl) (fun w' hg=>?_) ?_
      ·go_simp;exact Sa _
      refine A4 (by kernel_rfl) (fun w' hg=>?_) ?_
      ·go_simp;exact Sa _
      refine AA (by kernel_rfl) (by kernel_rfl) ?_;refine AA (by kernel_rfl) (by kernel_rfl) ?_;refine AA (by kernel_rfl) (by kernel_rfl) ?_;refine AA (by kernel_rfl) (by kernel_rfl) ?_;refine AA (by kernel_rfl) (by kernel_rfl) ?_;refine A4 (by kernel_rfl) (fun w' hg=>?_) ?_
      ·go_simp;exact Sa _
      refine A4 (by kernel_rfl) (fun w' hg=>?_) ?_
      ·go_simp;exact Sa _
      refine AA (by kernel_rfl) (by kernel_rfl) ?_;refine AA (by kernel_rfl) (by kernel_rfl) ?_;refine AA (by kernel_rfl) (by kernel_rfl) ?_;refine AA (by kernel_rfl) (by kernel_rfl) ?_;refine AA (by kernel_rfl) (by kernel_rfl) ?_;refine A4 (by kernel_rfl) (fun w' hg=>?_) ?_
      ·go_simp;exact Sa _
      refine A4 (by kernel_rfl) (fun w' hg=>?_) ?_
      ·go_simp;exact Sa _
      exact AQ
     case sT=>
      intro w9 hg9;simp only[List.toList_toArray,List.append_eq,List.cons_append,List.nil_append,AI,Act.put,List.setIfInBounds_toArray,List.set_cons_zero,List.set_cons_succ];go_wp2_with fail;go_ret;exact⟨by rw[HF.out];rfl,HG2.out.trans hg9⟩
    have t3:(o1==o2)=false:=by rw[SA];exact h3
    have HF:=S9 (show FV (.mk k1 f1 d1 o1 q1 n1 m1 nm1 ms1 by1 ks1) (.mk k2 f2 d2 o2 q2 n2 m2 nm2 ms2 Hy ks2)=false from by rw[DJ,SM (fun h=>h3 h.2.2.2.1)];rfl);clear h0 h1 h2 h3 hr7' hr8';go_enter Tryz.func13,Tryz.ntmps13;go_upto_region 1 with(first|((with_reducible refine C8 29 (.tmp 0) rfl ?_);refine BW 29 (.tmp 0) (AE (.mk k1 f1 d1 o1 q1 n1 m1 nm1 ms1 by1 ks1) (.slice Am Nm Km) (.slice Ab Nb Kb) (.slice Ak Nk Kk)) rfl rfl (by kernel_rfl) ?_;intro w1 hb1 g1 s1;have HB1:=S9 hb1;have HG1:=S9 g1;have HS1:=S9 s1;clear hb1 g1 s1;simp only[Act.put,List.setIfInBounds_toArray,List.set_cons_zero,List.set_cons_succ])|((with_reducible refine C8 29 (.tmp 1) rfl ?_);refine BW 29 (.tmp 1) (AE (.mk k2 f2 d2 o2 q2 n2 m2 nm2 ms2 Hy ks2) (.slice Bm Pm Lm) (.slice Bb Pb Lb) (.slice Bk Pk Lk)) rfl rfl (by kernel_rfl) ?_;intro w2 hb2 g2 s2;have HB2:=S9 (SC (HB1.out.grew g2) hb2);have HG2:=S9 (HG1.out.trans g2);clear hb2 g2 s2;simp only[Act.put,List.setIfInBounds_toArray,List.set_cons_zero,List.set_cons_succ]));refine AK [.pointer (some ⟨w.heap.size,0,none⟩),.int .i64 k1,.pointer (some ⟨w1.heap.size,0,none⟩),.int .i64 k2,.bool true,.bool true,.pointer (some ⟨w.heap.size,1,none⟩),.int .i64 f1,.pointer (some ⟨w1.heap.size,1,none⟩),.int .i64 f2,.bool true,.bool true,.bool true,.pointer (some ⟨w.heap.size,2,none⟩),.int .i64 d1,.pointer (some ⟨w1.heap.size,2,none⟩),.int .i64 d2,.bool true,.bool true,.bool true,.pointer (some ⟨w.heap.size,3,none⟩),.int .i64 o1,.pointer (some ⟨w1.heap.size,3,none⟩),.int .i64 o2,.bool false,.bool false,.bool false,undef,undef,undef,undef,undef,.bool false,.bool false,undef,undef,undef,undef,undef,.bool false,.bool false,undef,undef,undef,undef,undef,.bool false,.bool false,undef,undef,undef,undef,undef,.bool false,.bool false,undef,undef,undef,undef,undef,.bool false,.bool false,undef,undef,undef,undef,undef,.bool false,.bool false] _ (by kernel_rfl) (by kernel_rfl) rfl ?sH ?sT
    case sH=>
     simp only[List.toList_toArray,List.append_eq,List.cons_append,List.nil_append,AI,Act.put,List.setIfInBounds_toArray,List.set_cons_zero,List.set_cons_succ];refine A4 (by kernel_rfl) (fun w' hg=>?_) ?_
     ·go_simp;exact Sa _
     refine A4 (by kernel_rfl) (fun w' hg=>?_) ?_
     ·have hc:w'.cell? ⟨w.heap.size,0,none⟩=some (.int .i64 k1):=(HB2.out.1.grew hg).cell 0;exact AT 3 (.tmp 5) (fun w v h=>by simp[go_sem,h]) rfl (by kernel_rfl) hc ⟨by kernel_rfl,Sa _⟩
     refine A4 (by kernel_rfl) (fun w' hg=>?_) ?_
     ·go_simp;exact Sa _
     refine A4 (by kernel_rfl) (fun w' hg=>?_) ?_
     ·have hc:w'.cell? ⟨w1.heap.size,0,none⟩=some (.int .i64 k2):=(HB2.out.2.grew hg).cell 0;exact AT 3 (.tmp 7) (fun w v h=>by simp[go_sem,h]) rfl (by kernel_rfl) hc ⟨by kernel_rfl,Sa _⟩
     refine A4 (by kernel_rfl) (fun w' hg=>?_) ?_
     ·go_simp;exact Sa _
     refine A4 (by kernel_rfl) (fun w' hg=>?_) ?_
     ·go_simp;exact Sa _
     refine A4 (by kernel_rfl) (fun w' hg=>?_) ?_
     ·go_simp;exact Sa _
     refine A4 (by kernel_rfl) (fun w' hg=>?_) ?_
     ·have hc:w'.cell? ⟨w.heap.size,1,none⟩=some (.int .i64 f1):=(HB2.out.1.grew hg).cell 1;exact AT 3 (.tmp 11) (fun w v h=>by simp[go_sem,h]) rfl (by kernel_rfl) hc ⟨by kernel_rfl,Sa _⟩
     refine A4 (by kernel_rfl) (fun w' hg=>?_) ?_
     ·go_simp;exact Sa _
     refine A4 (by kernel_rfl) (fun w' hg=>?_) ?_
     ·have hc:w'.cell? ⟨w1.heap.size,1,none⟩=some (.int .i64 f2):=(HB2.out.2.grew hg).cell 1;exact AT 3 (.tmp 13) (fun w v h=>by simp[go_sem,h]) rfl (by kernel_rfl) hc ⟨by kernel_rfl,Sa _⟩
     refine A4 (by kernel_rfl) (fun w' hg=>?_) ?_
     ·go_simp;exact Sa _
     refine A4 (by kernel_rfl) (fun w' hg=>?_) ?_
     ·go_simp;exact Sa _
     refine A4 (by kernel_rfl) (fun w' hg=>?_) ?_
     ·go_simp;exact Sa _
     refine A4 (by kernel_rfl) (fun w' hg=>?_) ?_
     ·go_simp;exact Sa _
     refine A4 (by kernel_rfl) (fun w' hg=>?_) ?_
     ·have hc:w'.cell? ⟨w.heap.size,2,none⟩=some (.int .i64 d1):=(HB2.out.1.grew hg).cell 2;exact AT 3 (.tmp 18) (fun w v h=>by simp[go_sem,h]) rfl (by kernel_rfl) hc ⟨by kernel_rfl,Sa _⟩
     refine A4 (by kernel_rfl) (fun w' hg=>?_) ?_
     ·go_simp;exact Sa _
     refine A4 (by kernel_rfl) (fun w' hg=>?_) ?_
     ·have hc:w'.cell? ⟨w1.heap.size,2,none⟩=some (.int .i64 d2):=(HB2.out.2.grew hg).cell 2;exact AT 3 (.tmp 20) (fun w v h=>by simp[go_sem,h]) rfl (by kernel_rfl) hc ⟨by kernel_rfl,Sa _⟩
     refine A4 (by kernel_rfl) (fun w' hg=>?_) ?_
     ·go_simp;exact Sa _
     refine A4 (by kernel_rfl) (fun w' hg=>?_) ?_
     ·go_simp;exact Sa _
     refine A4 (by kernel_rfl) (fun w' hg=>?_) ?_
     ·go_simp;exact Sa _
     refine A4 (by kernel_rfl) (fun w' hg=>?_) ?_
     ·go_simp;exact Sa _
     refine A4 (by kernel_rfl) (fun w' hg=>?_) ?_
     ·have hc:w'.cell? ⟨w.heap.size,3,none⟩=some (.int .i64 o1):=(HB2.out.1.grew hg).cell 3;exact AT 3 (.tmp 25) (fun w v h=>by simp[go_sem,h]) rfl (by kernel_rfl) hc ⟨by kernel_rfl,Sa _⟩
     refine A4 (by kernel_rfl) (fun w' hg=>?_) ?_
     ·go_simp;exact Sa _
     refine A4 (by kernel_rfl) (fun w' hg=>?_) ?_
     ·have hc:w'.cell? ⟨w1.heap.size,3,none⟩=some (.int .i64 o2):=(HB2.out.2.grew hg).cell 3;exact AT 3 (.tmp 27) (fun w v h=>by simp[go_sem,h]) rfl (by kernel_rfl) hc ⟨by kernel_rfl,Sa _⟩
     refine A4 (by kernel_rfl) (fun w' hg=>?_) ?_
     ·go_simp;exact Sa _
     refine A4 (by kernel_rfl) (fun w' hg=>?_) ?_
     ·go_simp;exact Sa _
     refine A4 (by kernel_rfl) (fun w' hg=>?_) ?_
     ·go_simp;exact Sa _
     refine AA (by kernel_rfl) (by kernel_rfl) ?_;refine AA (by kernel_rfl) (by kernel_rfl) ?_;refine AA (by kernel_rfl) (by kernel_rfl) ?_;refine AA (by kernel_rfl) (by kernel_rfl) ?_;refine AA (by kernel_rfl) (by kernel_rfl) ?_;refine A4 (by kernel_rfl) (fun w' hg=>?_) ?_
     ·go_simp;exact Sa _
     refine A4 (by kernel_rfl) (fun w' hg=>?_) ?_
     ·go_simp;exact Sa _
     refine AA (by kernel_rfl) (by kernel_rfl) ?_;refine AA (by kernel_rfl) (by kernel_rfl) ?_;refine AA (by kernel_rfl) (by kernel_rfl) ?_;refine AA (by kernel_rfl) (by kernel_rfl) ?_;refine AA (by kernel_rfl) (by kernel_rfl) ?_;refine A4 (by kernel_rfl) (fun w' hg=>?_) ?_
     ·go_simp;exact Sa _
     refine A4 (by kernel_rfl) (fun w' hg=>?_) ?_
     ·go_simp;exact Sa _
     refine AA (by kernel_rfl) (by kernel_rfl) ?_;refine AA (by kernel_rfl) (by kernel_rfl) ?_;refine AA (by kernel_rfl) (by kernel_rfl) ?_;refine AA (by kernel_rfl) (by kernel_rfl) ?_;refine AA (by kernel_rfl) (by kernel_rfl) ?_;refine A4 (by kernel_rfl) (fun w' hg=>?_) ?_
     ·go_simp;exact Sa _
     refine A4 (by kernel_rfl) (fun w' hg=>?_) ?_
     ·go_simp;exact Sa _
     refine AA (by kernel_rfl) (by kernel_rfl) ?_;refine AA (by kernel_rfl) (by kernel_rfl) ?_;refine AA (by kernel_rfl) (by kernel_rfl) ?_;refine AA (by kernel_rfl) (by kernel_rfl) ?_;refine AA (by kernel_rfl) (by kernel_rfl) ?_;refine A4 (by kernel_rfl) (fun w' hg=>?_) ?_
     ·go_simp;exact Sa _
     refine A4 (by kernel_rfl) (fun w' hg=>?_) ?_
     ·go_simp;exact Sa _
     refine AA (by kernel_rfl) (by kernel_rfl) ?_;refine AA (by kernel_rfl) (by kernel_rfl) ?_;refine AA (by kernel_rfl) (by kernel_rfl) ?_;refine AA (by kernel_rfl) (by kernel_rfl) ?_;refine AA (by kernel_rfl) (by kernel_rfl) ?_;refine A4 (by kernel_rfl) (fun w' hg=>?_) ?_
     ·go_simp;exact Sa _
     refine A4 (by kernel_rfl) (fun w' hg=>?_) ?_
     ·go_simp;exact Sa _
     refine AA (by kernel_rfl) (by kernel_rfl) ?_;refine AA (by kernel_rfl) (by kernel_rfl) ?_;refine AA (by kernel_rfl) (by kernel_rfl) ?_;refine AA (by kernel_rfl) (by kernel_rfl) ?_;refine AA (by kernel_rfl) (by kernel_rfl) ?_;refine A4 (by kernel_rfl) (fun w' hg=>?_) ?_
     ·go_simp;exact Sa _
     refine A4 (by kernel_rfl) (fun w' hg=>?_) ?_
     ·go_simp;exact Sa _
     exact AQ
    case sT=>
     intro w9 hg9;simp only[List.toList_toArray,List.append_eq,List.cons_append,List.nil_append,AI,Act.put,List.setIfInBounds_toArray,List.set_cons_zero,List.set_cons_succ];go_wp2_with fail;go_ret;exact⟨by rw[HF.out];rfl,HG2.out.trans hg9⟩
   have t2:(d1==d2)=false:=by rw[SA];exact h2
   have HF:=S9 (show FV (.mk k1 f1 d1 o1 q1 n1 m1 nm1 ms1 by1 ks1) (.mk k2 f2 d2 o2 q2 n2 m2 nm2 ms2 Hy ks2)=false from by rw[DJ,SM (fun h=>h2 h.2.2.1)];rfl);clear h0 h1 h2 hr7' hr8';go_enter Tryz.func13,Tryz.ntmps13;go_upto_region 1 with(first|((with_reducible refine C8 29 (.tmp 0) rfl ?_);refine BW 29 (.tmp 0) (AE (.mk k1 f1 d1 o1 q1 n1 m1 nm1 ms1 by1 ks1) (.slice Am Nm Km) (.slice Ab Nb Kb) (.slice Ak Nk Kk)) rfl rfl (by kernel_rfl) ?_;intro w1 hb1 g1 s1;have HB1:=S9 hb1;have HG1:=S9 g1;have HS1:=S9 s1;clear hb1 g1 s1;simp only[Act.put,List.setIfInBounds_toArray,List.set_cons_zero,List.set_cons_succ])|((with_reducible refine C8 29 (.tmp 1) rfl ?_);refine BW 29 (.tmp 1) (AE (.mk k2 f2 d2 o2 q2 n2 m2 nm2 ms2 Hy ks2) (.slice Bm Pm Lm) (.slice Bb Pb Lb) (.slice Bk Pk Lk)) rfl rfl (by kernel_rfl) ?_;intro w2 hb2 g2 s2;have HB2:=S9 (SC (HB1.out.grew g2) hb2);have HG2:=S9 (HG1.out.trans g2);clear hb2 g2 s2;simp only[Act.put,List.setIfInBounds_toArray,List.set_cons_zero,List.set_cons_succ]));refine AK [.pointer (some ⟨w.heap.size,0,none⟩),.int .i64 k1,.pointer (some ⟨w1.heap.size,0,none⟩),.int .i64 k2,.bool true,.bool true,.pointer (some ⟨w.heap.size,1,none⟩),.int .i64 f1,.pointer (some ⟨w1.heap.size,1,none⟩),.int .i64 f2,.bool true,.bool true,.bool true,.pointer (some ⟨w.heap.size,2,none⟩),.int .i64 d1,.pointer (some ⟨w1.heap.size,2,none⟩),.int .i64 d2,.bool false,.bool false,.bool false,undef,undef,undef,undef,undef,.bool false,.bool false,undef,undef,undef,undef,undef,.bool false,.bool false,undef,undef,undef,undef,undef,.bool false,.bool false,undef,undef,undef,undef,undef,.bool false,.bool false,undef,undef,undef,undef,undef,.bool false,.bool false,undef,undef,undef,undef,undef,.bool false,.bool false,undef,undef,undef,undef,undef,.bool false,.bool false] _ (by kernel_rfl) (by kernel_rfl) rfl ?sH ?sT
   case sH=>
    simp only[List.toList_toArray,List.append_eq,List.cons_append,List.nil_append,AI,Act.put,List.setIfInBounds_toArray,List.set_cons_zero,List.set_cons_succ];refine A4 (by kernel_rfl) (fun w' hg=>?_) ?_
    ·go_simp;exact Sa _
    refine A4 (by kernel_rfl) (fun w' hg=>?_) ?_
    ·have hc:w'.cell? ⟨w.heap.size,0,none⟩=some (.int .i64 k1):=(HB2.out.1.grew hg).cell 0;exact AT 3 (.tmp 5) (fun w v h=>by simp[go_sem,h]) rfl (by kernel_rfl) hc ⟨by kernel_rfl,Sa _⟩
    refine A4 (by kernel_rfl) (fun w' hg=>?_) ?_
    ·go_simp;exact Sa _
    refine A4 (by kernel_rfl) (fun w' hg=>?_) ?_
    ·have hc:w'.cell? ⟨w1.heap.size,0,none⟩=some (.int .i64 k2):=(HB2.out.2.grew hg).cell 0;exact AT 3 (.tmp 7) (fun w v h=>by simp[go_sem,h]) rfl (by kernel_rfl) hc ⟨by kernel_rfl,Sa _⟩
    refine A4 (by kernel_rfl) (fun w' hg=>?_) ?_
    ·go_simp;exact Sa _
    refine A4 (by kernel_rfl) (fun w' hg=>?_) ?_
    ·go_simp;exact Sa _
    refine A4 (by kernel_rfl) (fun w' hg=>?_) ?_
    ·go_simp;exact Sa _
    refine A4 (by kernel_rfl) (fun w' hg=>?_) ?_
    ·have hc:w'.cell? ⟨w.heap.size,1,none⟩=some (.int .i64 f1):=(HB2.out.1.grew hg).cell 1;exact AT 3 (.tmp 11) (fun w v h=>by simp[go_sem,h]) rfl (by kernel_rfl) hc ⟨by kernel_rfl,Sa _⟩
    refine A4 (by kernel_rfl) (fun w' hg=>?_) ?_
    ·go_simp;exact Sa _
    refine A4 (by kernel_rfl) (fun w' hg=>?_) ?_
    ·have hc:w'.cell? ⟨w1.heap.size,1,none⟩=some (.int .i64 f2):=(HB2.out.2.grew hg).cell 1;exact AT 3 (.tmp 13) (fun w v h=>by simp[go_sem,h]) rfl (by kernel_rfl) hc ⟨by kernel_rfl,Sa _⟩
    refine A4 (by kernel_rfl) (fun w' hg=>?_) ?_
    ·go_simp;exact Sa _
    refine A4 (by kernel_rfl) (fun w' hg=>?_) ?_
    ·go_simp;exact Sa _
    refine A4 (by kernel_rfl) (fun w' hg=>?_) ?_
    ·go_simp;exact Sa _
    refine A4 (by kernel_rfl) (fun w' hg=>?_) ?_
    ·go_simp;exact Sa _
    refine A4 (by kernel_rfl) (fun w' hg=>?_) ?_
    ·have hc:w'.cell? ⟨w.heap.size,2,none⟩=some (.int .i64 d1):=(HB2.out.1.grew hg).cell 2;exact AT 3 (.tmp 18) (fun w v h=>by simp[go_sem,h]) rfl (by kernel_rfl) hc ⟨by kernel_rfl,Sa _⟩
    refine A4 (by kernel_rfl) (fun w' hg=>?_) ?_
    ·go_simp;exact Sa _
    refine A4 (by kernel_rfl) (fun w' hg=>?_) ?_
    ·have hc:w'.cell? ⟨w1.heap.size,2,none⟩=some (.int .i64 d2):=(HB2.out.2.grew hg).cell 2;exact AT 3 (.tmp 20) (fun w v h=>by simp[go_sem,h]) rfl (by kernel_rfl) hc ⟨by kernel_rfl,Sa _⟩
    refine A4 (by kernel_rfl) (fun w' hg=>?_) ?_
    ·go_simp;exact Sa _
    refine A4 (by kernel_rfl) (fun w' hg=>?_) ?_
    ·go_simp;exact Sa _
    refine A4 (by kernel_rfl) (fun w' hg=>?_) ?_
    ·go_simp;exact Sa _
    refine AA (by kernel_rfl) (by kernel_rfl) ?_;refine AA (by kernel_rfl) (by kernel_rfl) ?_;refine AA (by kernel_rfl) (by kernel_rfl) ?_;refine AA (by kernel_rfl) (by kernel_rfl) ?_;refine AA (by kernel_rfl) (by kernel_rfl) ?_;refine A4 (by kernel_rfl) (fun w' hg=>?_) ?_
    ·go_simp;exact Sa _
    refine A4 (by kernel_rfl) (fun w' hg=>?_) ?_
    ·go_simp;exact Sa _
    refine AA (by kernel_rfl) (by kernel_rfl) ?_;refine AA (by kernel_rfl) (by kernel_rfl) ?_;refine AA (by kernel_rfl) (by kernel_rfl) ?_;refine AA (by kernel_rfl) (by kernel_rfl) ?_;refine AA (by kernel_rfl) (by kernel_rfl) ?_;refine A4 (by kernel_rfl) (fun w' hg=>?_) ?_
    ·go_simp;exact Sa _
    refine A4 (by kernel_rfl) (fun w' hg=>?_) ?_
    ·go_simp;exact Sa _
    refine AA (by kernel_rfl) (by kernel_rfl) ?_;refine AA (by kernel_rfl) (by kernel_rfl) ?_;refine AA (by kernel_rfl) (by kernel_rfl) ?_;refine AA (by kernel_rfl) (by kernel_rfl) ?_;refine AA (by kernel_rfl) (by kernel_rfl) ?_;refine A4 (by kernel_rfl) (fun w' hg=>?_) ?_
    ·go_simp;exact Sa _
    refine A4 (by kernel_rfl) (fun w' hg=>?_) ?_
    ·go_simp;exact Sa _
    refine AA (by kernel_rfl) (by kernel_rfl) ?_;refine AA (by kernel_rfl) (by kernel_rfl) ?_;refine AA (by kernel_rfl) (by kernel_rfl) ?_;refine AA (by kernel_rfl) (by kernel_rfl) ?_;refine AA (by kernel_rfl) (by kernel_rfl) ?_;refine A4 (by kernel_rfl) (fun w' hg=>?_) ?_
    ·go_simp;exact Sa _
    refine A4 (by kernel_rfl) (fun w' hg=>?_) ?_
    ·go_simp;exact Sa _
    refine AA (by kernel_rfl) (by kernel_rfl) ?_;refine AA (by kernel_rfl) (by kernel_rfl) ?_;refine AA (by kernel_rfl) (by kernel_rfl) ?_;refine AA (by kernel_rfl) (by kernel_rfl) ?_;refine AA (by kernel_rfl) (by kernel_rfl) ?_;refine A4 (by kernel_rfl) (fun w' hg=>?_) ?_
    ·go_simp;exact Sa _
    refine A4 (by kernel_rfl) (fun w' hg=>?_) ?_
    ·go_simp;exact Sa _
    refine AA (by kernel_rfl) (by kernel_rfl) ?_;refine AA (by kernel_rfl) (by kernel_rfl) ?_;refine AA (by kernel_rfl) (by kernel_rfl) ?_;refine AA (by kernel_rfl) (by kernel_rfl) ?_;refine AA (by kernel_rfl) (by kernel_rfl) ?_;refine A4 (by kernel_rfl) (fun w' hg=>?_) ?_
    ·go_simp;exact Sa _
    refine A4 (by kernel_rfl) (fun w' hg=>?_) ?_
    ·go_simp;exact Sa _
    refine AA (by kernel_rfl) (by kernel_rfl) ?_;refine AA (by kernel_rfl) (by kernel_rfl) ?_;refine AA (by kernel_rfl) (by kernel_rfl) ?_;refine AA (by kernel_rfl) (by kernel_rfl) ?_;refine AA (by kernel_rfl) (by kernel_rfl) ?_;refine A4 (by kernel_rfl) (fun w' hg=>?_) ?_
    ·go_simp;exact Sa _
    refine A4 (by kernel_rfl) (fun w' hg=>?_) ?_
    ·go_simp;exact Sa _
    exact AQ
   case sT=>
    intro w9 hg9;simp only[List.toList_toArray,List.append_eq,List.cons_append,List.nil_append,AI,Act.put,List.setIfInBounds_toArray,List.set_cons_zero,List.set_cons_succ];go_wp2_with fail;go_ret;exact⟨by rw[HF.out];rfl,HG2.out.trans hg9⟩
  have t1:(f1==f2)=false:=by rw[SA];exact h1
  have HF:=S9 (show FV (.mk k1 f1 d1 o1 q1 n1 m1 nm1 ms1 by1 ks1) (.mk k2 f2 d2 o2 q2 n2 m2 nm2 ms2 Hy ks2)=false from by rw[DJ,SM (fun h=>h1 h.2.1)];rfl);clear h0 h1 hr7' hr8';go_enter Tryz.func13,Tryz.ntmps13;go_upto_region 1 with(first|((with_reducible refine C8 29 (.tmp 0) rfl ?_);refine BW 29 (.tmp 0) (AE (.mk k1 f1 d1 o1 q1 n1 m1 nm1 ms1 by1 ks1) (.slice Am Nm Km) (.slice Ab Nb Kb) (.slice Ak Nk Kk)) rfl rfl (by kernel_rfl) ?_;intro w1 hb1 g1 s1;have HB1:=S9 hb1;have HG1:=S9 g1;have HS1:=S9 s1;clear hb1 g1 s1;simp only[Act.put,List.setIfInBounds_toArray,List.set_cons_zero,List.set_cons_succ])|((with_reducible refine C8 29 (.tmp 1) rfl ?_);refine BW 29 (.tmp 1) (AE (.mk k2 f2 d2 o2 q2 n2 m2 nm2 ms2 Hy ks2) (.slice Bm Pm Lm) (.slice Bb Pb Lb) (.slice Bk Pk Lk)) rfl rfl (by kernel_rfl) ?_;intro w2 hb2 g2 s2;have HB2:=S9 (SC (HB1.out.grew g2) hb2);have HG2:=S9 (HG1.out.trans g2);clear hb2 g2 s2;simp only[Act.put,List.setIfInBounds_toArray,List.set_cons_zero,List.set_cons_succ]));refine AK [.pointer (some ⟨w.heap.size,0,none⟩),.int .i64 k1,.pointer (some ⟨w1.heap.size,0,none⟩),.int .i64 k2,.bool true,.bool true,.pointer (some ⟨w.heap.size,1,none⟩),.int .i64 f1,.pointer (some ⟨w1.heap.size,1,none⟩),.int .i64 f2,.bool false,.bool false,.bool false,undef,undef,undef,undef,undef,.bool false,.bool false,undef,undef,undef,undef,undef,.bool false,.bool false,undef,undef,undef,undef,undef,.bool false,.bool false,undef,undef,undef,undef,undef,.bool false,.bool false,undef,undef,undef,undef,undef,.bool false,.bool false,undef,undef,undef,undef,undef,.bool false,.bool false,undef,undef,undef,undef,undef,.bool false,.bool false,undef,undef,undef,undef,undef,.bool false,.bool false] _ (by kernel_rfl) (by kernel_rfl) rfl ?sH ?sT
  case sH=>
   simp only[List.toList_toArray,List.append_eq,List.cons_append,List.nil_append,AI,Act.put,List.setIfInBounds_toArray,List.set_cons_zero,List.set_cons_succ];refine A4 (by kernel_rfl) (fun w' hg=>?_) ?_
   ·go_simp;exact Sa _
   refine A4 (by kernel_rfl) (fun w' hg=>?_) ?_
   ·have hc:w'.cell? ⟨w.heap.size,0,none⟩=some (.int .i64 k1):=(HB2.out.1.grew hg).cell 0;exact AT 3 (.tmp 5) (fun w v h=>by simp[go_sem,h]) rfl (by kernel_rfl) hc ⟨by kernel_rfl,Sa _⟩
   refine A4 (by kernel_rfl) (fun w' hg=>?_) ?_
   ·go_simp;exact Sa _
   refine A4 (by kernel_rfl) (fun w' hg=>?_) ?_
   ·have hc:w'.cell? ⟨w1.heap.size,0,none⟩=some (.int .i64 k2):=(HB2.out.2.grew hg).cell 0;exact AT 3 (.tmp 7) (fun w v h=>by simp[go_sem,h]) rfl (by kernel_rfl) hc ⟨by kernel_rfl,Sa _⟩
   refine A4 (by kernel_rfl) (fun w' hg=>?_) ?_
   ·go_simp;exact Sa _
   refine A4 (by kernel_rfl) (fun w' hg=>?_) ?_
   ·go_simp;exact Sa _
   refine A4 (by kernel_rfl) (fun w' hg=>?_) ?_
   ·go_simp;exact Sa _
   refine A4 (by kernel_rfl) (fun w' hg=>?_) ?_
   ·have hc:w'.cell? ⟨w.heap.size,1,none⟩=some (.int .i64 f1):=(HB2.out.1.grew hg).cell 1;exact AT 3 (.tmp 11) (fun w v h=>by simp[go_sem,h]) rfl (by kernel_rfl) hc ⟨by kernel_rfl,Sa _⟩
   refine A4 (by kernel_rfl) (fun w' hg=>?_) ?_
   ·go_simp;exact Sa _
   refine A4 (by kernel_rfl) (fun w' hg=>?_) ?_
   ·have hc:w'.cell? ⟨w1.heap.size,1,none⟩=some (.int .i64 f2):=(HB2.out.2.grew hg).cell 1;exact AT 3 (.tmp 13) (fun w v h=>by simp[go_sem,h]) rfl (by kernel_rfl) hc ⟨by kernel_rfl,Sa _⟩
   refine A4 (by kernel_rfl) (fun w' hg=>?_) ?_
   ·go_simp;exact Sa _
   refine A4 (by kernel_rfl) (fun w' hg=>?_) ?_
   ·go_simp;exact Sa _
   refine A4 (by kernel_rfl) (fun w' hg=>?_) ?_
   ·go_simp;exact Sa _
   refine AA (by kernel_rfl) (by kernel_rfl) ?_;refine AA (by kernel_rfl) (by kernel_rfl) ?_;refine AA (by kernel_rfl) (by kernel_rfl) ?_;refine AA (by kernel_rfl) (by kernel_rfl) ?_;refine AA (by kernel_rfl) (by kernel_rfl) ?_;refine A4 (by kernel_rfl) (fun w' hg=>?_) ?_
   ·go_simp;exact Sa _
   refine A4 (by kernel_rfl) (fun w' hg=>?_) ?_
   ·go_simp;exact Sa _
   refine AA (by kernel_rfl) (by kernel_rfl) ?_;refine AA (by kernel_rfl) (by kernel_rfl) ?_;refine AA (by kernel_rfl) (by kernel_rfl) ?_;refine AA (by kernel_rfl) (by kernel_rfl) ?_;refine AA (by kernel_rfl) (by kernel_rfl) ?_;refine A4 (by kernel_rfl) (fun w' hg=>?_) ?_
   ·go_simp;exact Sa _
   refine A4 (by kernel_rfl) (fun w' hg=>?_) ?_
   ·go_simp;exact Sa _
   refine AA (by kernel_rfl) (by kernel_rfl) ?_;refine AA (by kernel_rfl) (by kernel_rfl) ?_;refine AA (by kernel_rfl) (by kernel_rfl) ?_;refine AA (by kernel_rfl) (by kernel_rfl) ?_;refine AA (by kernel_rfl) (by kernel_rfl) ?_;refine A4 (by kernel_rfl) (fun w' hg=>?_) ?_
   ·go_simp;exact Sa _
   refine A4 (by kernel_rfl) (fun w' hg=>?_) ?_
   ·go_simp;exact Sa _
   refine AA (by kernel_rfl) (by kernel_rfl) ?_;refine AA (by kernel_rfl) (by kernel_rfl) ?_;refine AA (by kernel_rfl) (by kernel_rfl) ?_;refine AA (by kernel_rfl) (by kernel_rfl) ?_;refine AA (by kernel_rfl) (by kernel_rfl) ?_;refine A4 (by kernel_rfl) (fun w' hg=>?_) ?_
   ·go_simp;exact Sa _
   refine A4 (by kernel_rfl) (fun w' hg=>?_) ?_
   ·go_simp;exact Sa _
   refine AA (by kernel_rfl) (by kernel_rfl) ?_;refine AA (by kernel_rfl) (by kernel_rfl) ?_;refine AA (by kernel_rfl) (by kernel_rfl) ?_;refine AA (by kernel_rfl) (by kernel_rfl) ?_;refine AA (by kernel_rfl) (by kernel_rfl) ?_;refine A4 (by kernel_rfl) (fun w' hg=>?_) ?_
   ·go_simp;exact Sa _
   refine A4 (by kernel_rfl) (fun w' hg=>?_) ?_
   ·go_simp;exact Sa _
   refine AA (by kernel_rfl) (by kernel_rfl) ?_;refine AA (by kernel_rfl) (by kernel_rfl) ?_;refine AA (by kernel_rfl) (by kernel_rfl) ?_;refine AA (by kernel_rfl) (by kernel_rfl) ?_;refine AA (by kernel_rfl) (by kernel_rfl) ?_;refine A4 (by kernel_rfl) (fun w' hg=>?_) ?_
   ·go_simp;exact Sa _
   refine A4 (by kernel_rfl) (fun w' hg=>?_) ?_
   ·go_simp;exact Sa _
   refine AA (by kernel_rfl) (by kernel_rfl) ?_;refine AA (by kernel_rfl) (by kernel_rfl) ?_;refine AA (by kernel_rfl) (by kernel_rfl) ?_;refine AA (by kernel_rfl) (by kernel_rfl) ?_;refine AA (by kernel_rfl) (by kernel_rfl) ?_;refine A4 (by kernel_rfl) (fun w' hg=>?_) ?_
   ·go_simp;exact Sa _
   refine A4 (by kernel_rfl) (fun w' hg=>?_) ?_
   ·go_simp;exact Sa _
   refine AA (by kernel_rfl) (by kernel_rfl) ?_;refine AA (by kernel_rfl) (by kernel_rfl) ?_;refine AA (by kernel_rfl) (by kernel_rfl) ?_;refine AA (by kernel_rfl) (by kernel_rfl) ?_;refine AA (by kernel_rfl) (by kernel_rfl) ?_;refine A4 (by kernel_rfl) (fun w' hg=>?_) ?_
   ·go_simp;exact Sa _
   refine A4 (by kernel_rfl) (fun w' hg=>?_) ?_
   ·go_simp;exact Sa _
   exact AQ
  case sT=>
   intro w9 hg9;simp only[List.toList_toArray,List.append_eq,List.cons_append,List.nil_append,AI,Act.put,List.setIfInBounds_toArray,List.set_cons_zero,List.set_cons_succ];go_wp2_with fail;go_ret;exact⟨by rw[HF.out];rfl,HG2.out.trans hg9⟩
 have t0:(k1==k2)=false:=by rw[SA];exact h0
 have HF:=S9 (show FV (.mk k1 f1 d1 o1 q1 n1 m1 nm1 ms1 by1 ks1) (.mk k2 f2 d2 o2 q2 n2 m2 nm2 ms2 Hy ks2)=false from by rw[DJ,SM (fun h=>h0 h.1)];rfl);clear h0 hr7' hr8';go_enter Tryz.func13,Tryz.ntmps13;go_upto_region 1 with(first|((with_reducible refine C8 29 (.tmp 0) rfl ?_);refine BW 29 (.tmp 0) (AE (.mk k1 f1 d1 o1 q1 n1 m1 nm1 ms1 by1 ks1) (.slice Am Nm Km) (.slice Ab Nb Kb) (.slice Ak Nk Kk)) rfl rfl (by kernel_rfl) ?_;intro w1 hb1 g1 s1;have HB1:=S9 hb1;have HG1:=S9 g1;have HS1:=S9 s1;clear hb1 g1 s1;simp only[Act.put,List.setIfInBounds_toArray,List.set_cons_zero,List.set_cons_succ])|((with_reducible refine C8 29 (.tmp 1) rfl ?_);refine BW 29 (.tmp 1) (AE (.mk k2 f2 d2 o2 q2 n2 m2 nm2 ms2 Hy ks2) (.slice Bm Pm Lm) (.slice Bb Pb Lb) (.slice Bk Pk Lk)) rfl rfl (by kernel_rfl) ?_;intro w2 hb2 g2 s2;have HB2:=S9 (SC (HB1.out.grew g2) hb2);have HG2:=S9 (HG1.out.trans g2);clear hb2 g2 s2;simp only[Act.put,List.setIfInBounds_toArray,List.set_cons_zero,List.set_cons_succ]));refine AK [.pointer (some ⟨w.heap.size,0,none⟩),.int .i64 k1,.pointer (some ⟨w1.heap.size,0,none⟩),.int .i64 k2,.bool false,.bool false,undef,undef,undef,undef,undef,.bool false,.bool false,undef,undef,undef,undef,undef,.bool false,.bool false,undef,undef,undef,undef,undef,.bool false,.bool false,undef,undef,undef,undef,undef,.bool false,.bool false,undef,undef,undef,undef,undef,.bool false,.bool false,undef,undef,undef,undef,undef,.bool false,.bool false,undef,undef,undef,undef,undef,.bool false,.bool false,undef,undef,undef,undef,undef,.bool false,.bool false,undef,undef,undef,undef,undef,.bool false,.bool false] _ (by kernel_rfl) (by kernel_rfl) rfl ?sH ?sT
 case sH=>
  simp only[List.toList_toArray,List.append_eq,List.cons_append,List.nil_append,AI,Act.put,List.setIfInBounds_toArray,List.set_cons_zero,List.set_cons_succ];refine A4 (by kernel_rfl) (fun w' hg=>?_) ?_
  ·go_simp;exact Sa _
  refine A4 (by kernel_rfl) (fun w' hg=>?_) ?_
  ·have hc:w'.cell? ⟨w.heap.size,0,none⟩=some (.int .i64 k1):=(HB2.out.1.grew hg).cell 0;exact AT 3 (.tmp 5) (fun w v h=>by simp[go_sem,h]) rfl (by kernel_rfl) hc ⟨by kernel_rfl,Sa _⟩
  refine A4 (by kernel_rfl) (fun w' hg=>?_) ?_
  ·go_simp;exact Sa _
  refine A4 (by kernel_rfl) (fun w' hg=>?_) ?_
  ·have hc:w'.cell? ⟨w1.heap.size,0,none⟩=some (.int .i64 k2):=(HB2.out.2.grew hg).cell 0;exact AT 3 (.tmp 7) (fun w v h=>by simp[go_sem,h]) rfl (by kernel_rfl) hc ⟨by kernel_rfl,Sa _⟩
  refine A4 (by kernel_rfl) (fun w' hg=>?_) ?_
  ·go_simp;exact Sa _
  refine A4 (by kernel_rfl) (fun w' hg=>?_) ?_
  ·go_simp;exact Sa _
  refine AA (by kernel_rfl) (by kernel_rfl) ?_;refine AA (by kernel_rfl) (by kernel_rfl) ?_;refine AA (by kernel_rfl) (by kernel_rfl) ?_;refine AA (by kernel_rfl) (by kernel_rfl) ?_;refine AA (by kernel_rfl) (by kernel_rfl) ?_;refine A4 (by kernel_rfl) (fun w' hg=>?_) ?_
  ·go_simp;exact Sa _
  refine A4 (by kernel_rfl) (fun w' hg=>?_) ?_
  ·go_simp;exact Sa _
  refine AA (by kernel_rfl) (by kernel_rfl) ?_;refine AA (by kernel_rfl) (by kernel_rfl) ?_;refine AA (by kernel_rfl) (by kernel_rfl) ?_;refine AA (by kernel_rfl) (by kernel_rfl) ?_;refine AA (by kernel_rfl) (by kernel_rfl) ?_;refine A4 (by kernel_rfl) (fun w' hg=>?_) ?_
  ·go_simp;exact Sa _
  refine A4 (by kernel_rfl) (fun w' hg=>?_) ?_
  ·go_simp;exact Sa _
  refine AA (by kernel_rfl) (by kernel_rfl) ?_;refine AA (by kernel_rfl) (by kernel_rfl) ?_;refine AA (by kernel_rfl) (by kernel_rfl) ?_;refine AA (by kernel_rfl) (by kernel_rfl) ?_;refine AA (by kernel_rfl) (by kernel_rfl) ?_;refine A4 (by kernel_rfl) (fun w' hg=>?_) ?_
  ·go_simp;exact Sa _
  refine A4 (by kernel_rfl) (fun w' hg=>?_) ?_
  ·go_simp;exact Sa _
  refine AA (by kernel_rfl) (by kernel_rfl) ?_;refine AA (by kernel_rfl) (by kernel_rfl) ?_;refine AA (by kernel_rfl) (by kernel_rfl) ?_;refine AA (by kernel_rfl) (by kernel_rfl) ?_;refine AA (by kernel_rfl) (by kernel_rfl) ?_;refine A4 (by kernel_rfl) (fun w' hg=>?_) ?_
  ·go_simp;exact Sa _
  refine A4 (by kernel_rfl) (fun w' hg=>?_) ?_
  ·go_simp;exact Sa _
  refine AA (by kernel_rfl) (by kernel_rfl) ?_;refine AA (by kernel_rfl) (by kernel_rfl) ?_;refine AA (by kernel_rfl) (by kernel_rfl) ?_;refine AA (by kernel_rfl) (by kernel_rfl) ?_;refine AA (by kernel_rfl) (by kernel_rfl) ?_;refine A4 (by kernel_rfl) (fun w' hg=>?_) ?_
  ·go_simp;exact Sa _
  refine A4 (by kernel_rfl) (fun w' hg=>?_) ?_
  ·go_simp;exact Sa _
  refine AA (by kernel_rfl) (by kernel_rfl) ?_;refine AA (by kernel_rfl) (by kernel_rfl) ?_;refine AA (by kernel_rfl) (by kernel_rfl) ?_;refine AA (by kernel_rfl) (by kernel_rfl) ?_;refine AA (by kernel_rfl) (by kernel_rfl) ?_;refine A4 (by kernel_rfl) (fun w' hg=>?_) ?_
  ·go_simp;exact Sa _
  refine A4 (by kernel_rfl) (fun w' hg=>?_) ?_
  ·go_simp;exact Sa _
  refine AA (by kernel_rfl) (by kernel_rfl) ?_;refine AA (by kernel_rfl) (by kernel_rfl) ?_;refine AA (by kernel_rfl) (by kernel_rfl) ?_;refine AA (by kernel_rfl) (by kernel_rfl) ?_;refine AA (by kernel_rfl) (by kernel_rfl) ?_;refine A4 (by kernel_rfl) (fun w' hg=>?_) ?_
  ·go_simp;exact Sa _
  refine A4 (by kernel_rfl) (fun w' hg=>?_) ?_
  ·go_simp;exact Sa _
  refine AA (by kernel_rfl) (by kernel_rfl) ?_;refine AA (by kernel_rfl) (by kernel_rfl) ?_;refine AA (by kernel_rfl) (by kernel_rfl) ?_;refine AA (by kernel_rfl) (by kernel_rfl) ?_;refine AA (by kernel_rfl) (by kernel_rfl) ?_;refine A4 (by kernel_rfl) (fun w' hg=>?_) ?_
  ·go_simp;exact Sa _
  refine A4 (by kernel_rfl) (fun w' hg=>?_) ?_
  ·go_simp;exact Sa _
  refine AA (by kernel_rfl) (by kernel_rfl) ?_;refine AA (by kernel_rfl) (by kernel_rfl) ?_;refine AA (by kernel_rfl) (by kernel_rfl) ?_;refine AA (by kernel_rfl) (by kernel_rfl) ?_;refine AA (by kernel_rfl) (by kernel_rfl) ?_;refine A4 (by kernel_rfl) (fun w' hg=>?_) ?_
  ·go_simp;exact Sa _
  refine A4 (by kernel_rfl) (fun w' hg=>?_) ?_
  ·go_simp;exact Sa _
  exact AQ
 case sT=>
  intro w9 hg9;simp only[List.toList_toArray,List.append_eq,List.cons_append,List.nil_append,AI,Act.put,List.setIfInBounds_toArray,List.set_cons_zero,List.set_cons_succ];go_wp2_with fail;go_ret;exact⟨by rw[HF.out];rfl,HG2.out.trans hg9⟩
theorem Hi {e k:Ex} (h:E8 e) (hk:k∈e.kids):E8 k:=Io (G4 h).2.2 hk
theorem KK:∀(k:Nat) (e1 e2:Ex),AL e1≤k→AL e2≤1000000→k≤1000000→E8 e1→E8 e2→∀(w:World) (cs1 cs2:List Value),BZ w w.heap.size e1 cs1→BZ w w.heap.size e2 cs2→
  Calls Tryz.prog 13 #[.agg cs1.toArray,.agg cs2.toArray] w fun e' w'=>e'= .returned (.bool (FV e1 e2))∧A5 w w'
 |0,e1,_,h,_,_,_,_,_,_,_,_,_=>absurd (Aw e1) (by omega)
 |k+1,e1,e2,h1,h2,hk,ht1,ht2,w,cs1,cs2,hr1,hr2=>by
  have n1:=B9 e1;have n2:=B9 e2;have l1:=Bh e1.kids;have l2:=Bh e2.kids;obtain⟨a1,a2, -⟩:=G4 ht1;obtain⟨b1,b2, -⟩:=G4 ht2;exact OD e1 e2 (fun a ha b hb w cs1 cs2=>KK k a b (by have:=Aa ha;omega) (by have:=Aa hb;omega) (by omega) (Hi ht1 ha) (Hi ht2 hb) w cs1 cs2) ⟨a1,a2,by omega⟩ ⟨b1,b2,by omega⟩ w cs1 cs2 hr1 hr2
end Go.Proofs.YthpflelgbadkcaaGreatDoor
