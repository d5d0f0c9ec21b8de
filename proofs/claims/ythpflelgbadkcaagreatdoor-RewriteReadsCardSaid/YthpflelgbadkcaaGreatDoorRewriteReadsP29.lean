/- package rewrite: the rules nothing, vanish. -/
import Derived.Test.YthpflelgbadkcaaGreatDoorRewriteReadsP01
import Derived.Test.YthpflelgbadkcaaGreatDoorRewriteReadsP28
set_option maxRecDepth 100000
set_option maxHeartbeats 12800000
set_option linter.unusedVariables false
set_option linter.unusedSimpArgs false
namespace Go.Proofs.YthpflelgbadkcaaGreatDoor
open Go.RowKit Pl
def CF (f:Int) (e1 e2:Ex):Option Ex:=if(f=0∨f=1)∧Ix e2 e1=true then some e1 else if f=0∧Ix e1 e2=true then some e2 else none
theorem LV {f:Int} {e1 e2:Ex} (h1:CG e1) (h2:CG e2) {Q:Nat→Prop} {w:World} {cs1 cs2:List Value} (hwt:D5 w) (hot:Dc w) (hq:∀b,Q b→b<w.heap.size) (hr1:AW w Q e1 cs1) (hr2:AW w Q e2 cs2):
  Calls Tryz.prog 61 #[.int .i64 f,.agg cs1.toArray,.agg cs2.toArray] w (CO (CF f e1 e2) Q w):=by
 have HQ:=S9 hq;have HR1:=S9 (fun w' (g:A5 w w')=>hr1.grewQ hq g);have HR2:=S9 (fun w' (g:A5 w w')=>hr2.grewQ hq g);have HE1:=S9 (fun w' (g:A5 w w')=>AW.toB (fun b hb=>SE (hq b hb) g.size) _ _ (hr1.grewQ hq g));have HE2:=S9 (fun w' (g:A5 w w')=>AW.toB (fun b hb=>SE (hq b hb) g.size) _ _ (hr2.grewQ hq g));have HL:=S9 (SC hr1.len hr2.len);have HO:=S9 (SC (hr1.one_ hq) (hr2.one_ hq));have HT:=S9 (fun w' (g:A5 w w')=>SC (hwt.grew g) (hot.keep g (fun h=>h)));have HOK:=S9 (SC h1 h2);obtain⟨hb1,hb2,hb3,hG⟩:=Cb w 29 29 29 cs1.toArray cs2.toArray (AH 0 0).toArray;clear hq hr1 hr2 h1 h2 hwt hot;go_enter Tryz.func61,Tryz.ntmps61;go_upto_region 1 with fail;change Code.wp _ _ _ _ (((w.alloc (.cells cs1.toArray 29)).alloc (.cells cs2.toArray 29)).alloc (.cells (AH 0 0).toArray 29));generalize ((w.alloc (.cells cs1.toArray 29)).alloc (.cells cs2.toArray 29)).alloc (.cells (AH 0 0).toArray 29)=w1 at*;have HB1:=S9 (show ∀w',A5 w1 w'→w'.rangeAt w.heap.size 0 cs1 from fun w' g=>(hb1.grew g).rangeN 0 _ (by simp));have HB2:=S9 (show ∀w',A5 w1 w'→w'.rangeAt (w.heap.size+1) 0 cs2 from fun w' g=>(hb2.grew g).rangeN 0 _ (by simp));have HB3:=S9 hb3;have HG:=S9 hG;have HK:=S9 (Sa w1);clear hb1 hb2 hb3 hG;by_cases f0:f=0
 ·subst f0;obtain⟨r1,hr1⟩:∃q,Ix e2 e1=q:=⟨_,rfl⟩;obtain⟨r2,hr2⟩:∃q,Ix e1 e2=q:=⟨_,rfl⟩;go_upto_region 2 with fail;rcases r1 with _|_
  ·refine AK [(.int .i64 0),.bool true,.bool true,undef,undef,.bool true,.bool true,.func (.func 91) #[] #[],.agg cs2.toArray,.agg cs1.toArray,.bool false,.bool false] _ (by kernel_rfl) (by kernel_rfl) rfl ?sH ?sT
   case sH=>
    simp only[List.toList_toArray,List.append_eq,List.cons_append,List.nil_append,AI,Act.put,List.setIfInBounds_toArray,List.set_cons_zero,List.set_cons_succ];refine A4 (by kernel_rfl) (fun w' hg=>?_) ?_
    ·go_simp;exact Sa _
    refine A4 (by kernel_rfl) (fun w' hg=>?_) ?_
    ·go_simp;first|done|exact Sa _
    refine A4 (by kernel_rfl) (fun w' hg=>?_) ?_
    ·go_simp;exact Sa _
    refine AA (by kernel_rfl) (by kernel_rfl) ?_;refine AA (by kernel_rfl) (by kernel_rfl) ?_;refine A4 (by kernel_rfl) (fun w' hg=>?_) ?_
    ·go_simp;exact Sa _
    refine A4 (by kernel_rfl) (fun w' hg=>?_) ?_
    ·go_simp;exact Sa _
    refine A4 (by kernel_rfl) (fun w' hg=>?_) ?_
    ·go_simp;exact Sa _
    refine A4 (by kernel_rfl) (fun w' hg=>?_) ?_
    ·refine wp_load_mid 29 (.tmp 5) rfl (w.heap.size+1) 0 rfl cs2 _ (HB2.out _ (HK.out.trans hg)) Tryz.underlying29 rfl (by rw[HL.out.2];exact AD) ?_;exact⟨rfl,Sa _⟩
    refine A4 (by kernel_rfl) (fun w' hg=>?_) ?_
    ·refine wp_load_mid 29 (.tmp 4) rfl (w.heap.size) 0 rfl cs1 _ (HB1.out _ (HK.out.trans hg)) Tryz.underlying29 rfl (by rw[HL.out.1];exact AD) ?_;exact⟨rfl,Sa _⟩
    refine A4 (by kernel_rfl) (fun w' hg=>?_) ?_
    ·go_simp;(with_reducible refine(Fb HOK.out.2 HOK.out.1 (HT.out _ (HG.out.trans (HK.out.trans hg))).1 (HT.out _ (HG.out.trans (HK.out.trans hg))).2 (HE2.out _ (HG.out.trans (HK.out.trans hg))) (HE1.out _ (HG.out.trans (HK.out.trans hg))):Calls _ _ _ _ _).mono ?_);rintro e wq ⟨rfl,kq⟩;exact⟨by rw[hr1];try rfl,kq⟩
    refine A4 (by kernel_rfl) (fun w' hg=>?_) ?_
    ·go_simp;exact Sa _
    exact AQ
   case sT=>
    intro w9 hg9;simp only[List.toList_toArray,List.append_eq,List.cons_append,List.nil_append,AI,Act.put,List.setIfInBounds_toArray,List.set_cons_zero,List.set_cons_succ];have HK2:=S9 (HK.out.trans hg9);clear hg9;go_upto_region 4 with fail;rcases r2 with _|_
    ·refine AK [(.int .i64 0),.bool true,.bool true,.func (.func 91) #[] #[],.agg cs1.toArray,.agg cs2.toArray,.bool false,.bool false] _ (by kernel_rfl) (by kernel_rfl) rfl ?sH ?sT
     case sH=>
      simp only[List.toList_toArray,List.append_eq,List.cons_append,List.nil_append,AI,Act.put,List.setIfInBounds_toArray,List.set_cons_zero,List.set_cons_succ];refine A4 (by kernel_rfl) (fun w' hg=>?_) ?_
      ·go_simp;exact Sa _
      refine A4 (by kernel_rfl) (fun w' hg=>?_) ?_
      ·go_simp;first|done|exact Sa _
      refine A4 (by kernel_rfl) (fun w' hg=>?_) ?_
      ·go_simp;exact Sa _
      refine A4 (by kernel_rfl) (fun w' hg=>?_) ?_
      ·go_simp;exact Sa _
      refine A4 (by kernel_rfl) (fun w' hg=>?_) ?_
      ·refine wp_load_mid 29 (.tmp 4) rfl (w.heap.size) 0 rfl cs1 _ (HB1.out _ (HK2.out.trans hg)) Tryz.underlying29 rfl (by rw[HL.out.1];exact AD) ?_;exact⟨rfl,Sa _⟩
      refine A4 (by kernel_rfl) (fun w' hg=>?_) ?_
      ·refine wp_load_mid 29 (.tmp 5) rfl (w.heap.size+1) 0 rfl cs2 _ (HB2.out _ (HK2.out.trans hg)) Tryz.underlying29 rfl (by rw[HL.out.2];exact AD) ?_;exact⟨rfl,Sa _⟩
      refine A4 (by kernel_rfl) (fun w' hg=>?_) ?_
      ·go_simp;(with_reducible refine(Fb HOK.out.1 HOK.out.2 (HT.out _ (HG.out.trans (HK2.out.trans hg))).1 (HT.out _ (HG.out.trans (HK2.out.trans hg))).2 (HE1.out _ (HG.out.trans (HK2.out.trans hg))) (HE2.out _ (HG.out.trans (HK2.out.trans hg))):Calls _ _ _ _ _).mono ?_);rintro e wq ⟨rfl,kq⟩;exact⟨by rw[hr2];try rfl,kq⟩
      refine A4 (by kernel_rfl) (fun w' hg=>?_) ?_
      ·go_simp;exact Sa _
      exact AQ
     case sT=>
      intro w9 hg9;simp only[List.toList_toArray,List.append_eq,List.cons_append,List.nil_append,AI,Act.put,List.setIfInBounds_toArray,List.set_cons_zero,List.set_cons_succ];have HK3:=S9 (HK2.out.trans hg9);go_wp2_with(first|((with_reducible refine AG 29 (.tmp 5) rfl ?_);refine wpList_load_mid rfl 29 (.tmp 5) rfl (w.heap.size+1) 0 rfl cs2 _ (HB2.out _ HK3.out) Tryz.underlying29 rfl (by rw[HL.out.2];exact AD) ?_)|((with_reducible refine AF 29 (.tmp 6) (.tmp 30) rfl ?_);refine Ar 29 (.tmp 6) (.tmp 30) (w.heap.size+1+1) cs2 (AH 0 0) 29 (by rw[HL.out.2];exact AD) (by rw[HL.out.2];rfl) HO.out.2 rfl rfl rfl rfl (HB3.out.grew HK3.out) ?_;intro w8 hb8 k8 d8)|((with_reducible refine AF 29 (.tmp 6) (.tmp 31) rfl ?_);refine Ar 29 (.tmp 6) (.tmp 31) (w.heap.size+1+1) (AH 0 0) (AH 0 0) 29 AD rfl (AX _ _) rfl rfl rfl rfl (HB3.out.grew HK3.out) ?_;intro w8 hb8 k8 d8));refine bodyPost_ret (AR rfl rfl rfl AD Tryz.underlying29 rfl hb8) rfl ?_;exact BC (by unfold CF;simp[hr1,hr2]) (HG.out.trans HK3.out) k8
    refine AK [(.int .i64 0),.bool true,.bool true,.func (.func 91) #[] #[],.agg cs1.toArray,.agg cs2.toArray,.bool true,.bool true] _ (by kernel_rfl) (by kernel_rfl) rfl ?sH ?sT
    case sH=>
     simp only[List.toList_toArray,List.append_eq,List.cons_append,List.nil_append,AI,Act.put,List.setIfInBounds_toArray,List.set_cons_zero,List.set_cons_succ];refine A4 (by kernel_rfl) (fun w' hg=>?_) ?_
     ·go_simp;exact Sa _
     refine A4 (by kernel_rfl) (fun w' hg=>?_) ?_
     ·go_simp;first|done|exact Sa _
     refine A4 (by kernel_rfl) (fun w' hg=>?_) ?_
     ·go_simp;exact Sa _
     refine A4 (by kernel_rfl) (fun w' hg=>?_) ?_
     ·go_simp;exact Sa _
     refine A4 (by kernel_rfl) (fun w' hg=>?_) ?_
     ·refine wp_load_mid 29 (.tmp 4) rfl (w.heap.size) 0 rfl cs1 _ (HB1.out _ (HK2.out.trans hg)) Tryz.underlying29 rfl (by rw[HL.out.1];exact AD) ?_;exact⟨rfl,Sa _⟩
     refine A4 (by kernel_rfl) (fun w' hg=>?_) ?_
     ·refine wp_load_mid 29 (.tmp 5) rfl (w.heap.size+1) 0 rfl cs2 _ (HB2.out _ (HK2.out.trans hg)) Tryz.underlying29 rfl (by rw[HL.out.2];exact AD) ?_;exact⟨rfl,Sa _⟩
     refine A4 (by kernel_rfl) (fun w' hg=>?_) ?_
     ·go_simp;(with_reducible refine(Fb HOK.out.1 HOK.out.2 (HT.out _ (HG.out.trans (HK2.out.trans hg))).1 (HT.out _ (HG.out.trans (HK2.out.trans hg))).2 (HE1.out _ (HG.out.trans (HK2.out.trans hg))) (HE2.out _ (HG.out.trans (HK2.out.trans hg))):Calls _ _ _ _ _).mono ?_);rintro e wq ⟨rfl,kq⟩;exact⟨by rw[hr2];try rfl,kq⟩
     refine A4 (by kernel_rfl) (fun w' hg=>?_) ?_
     ·go_simp;exact Sa _
     exact AQ
    case sT=>
     intro w9 hg9;simp only[List.toList_toArray,List.append_eq,List.cons_append,List.nil_append,AI,Act.put,List.setIfInBounds_toArray,List.set_cons_zero,List.set_cons_succ];have HK3:=S9 (HK2.out.trans hg9);go_wp2_with(first|((with_reducible refine AG 29 (.tmp 5) rfl ?_);refine wpList_load_mid rfl 29 (.tmp 5) rfl (w.heap.size+1) 0 rfl cs2 _ (HB2.out _ HK3.out) Tryz.underlying29 rfl (by rw[HL.out.2];exact AD) ?_)|((with_reducible refine AF 29 (.tmp 6) (.tmp 30) rfl ?_);refine Ar 29 (.tmp 6) (.tmp 30) (w.heap.size+1+1) cs2 (AH 0 0) 29 (by rw[HL.out.2];exact AD) (by rw[HL.out.2];rfl) HO.out.2 rfl rfl rfl rfl (HB3.out.grew HK3.out) ?_;intro w8 hb8 k8 d8)|((with_reducible refine AF 29 (.tmp 6) (.tmp 31) rfl ?_);refine Ar 29 (.tmp 6) (.tmp 31) (w.heap.size+1+1) (AH 0 0) (AH 0 0) 29 AD rfl (AX _ _) rfl rfl rfl rfl (HB3.out.grew HK3.out) ?_;intro w8 hb8 k8 d8));refine bodyPost_ret (AR rfl rfl rfl (by rw[HL.out.2];exact AD) Tryz.underlying29 rfl hb8) rfl ?_;exact Cs (by unfold CF;simp[hr1,hr2]) HQ.out (HR2.out _ (Sa _)) (HG.out.trans HK3.out) k8
  refine AK [(.int .i64 0),.bool true,.bool true,undef,undef,.bool true,.bool true,.func (.func 91) #[] #[],.agg cs2.toArray,.agg cs1.toArray,.bool true,.bool true] _ (by kernel_rfl) (by kernel_rfl) rfl ?sH ?sT
  case sH=>
   simp only[List.toList_toArray,List.append_eq,List.cons_append,List.nil_append,AI,Act.put,List.setIfInBounds_toArray,List.set_cons_zero,List.set_cons_succ];refine A4 (by kernel_rfl) (fun w' hg=>?_) ?_
   ·go_simp;exact Sa _
   refine A4 (by kernel_rfl) (fun w' hg=>?_) ?_
   ·go_simp;first|done|exact Sa _
   refine A4 (by kernel_rfl) (fun w' hg=>?_) ?_
   ·go_simp;exact Sa _
   refine AA (by kernel_rfl) (by kernel_rfl) ?_;refine AA (by kernel_rfl) (by kernel_rfl) ?_;refine A4 (by kernel_rfl) (fun w' hg=>?_) ?_
   ·go_simp;exact Sa _
   refine A4 (by kernel_rfl) (fun w' hg=>?_) ?_
   ·go_simp;exact Sa _
   refine A4 (by kernel_rfl) (fun w' hg=>?_) ?_
   ·go_simp;exact Sa _
   refine A4 (by kernel_rfl) (fun w' hg=>?_) ?_
   ·refine wp_load_mid 29 (.tmp 5) rfl (w.heap.size+1) 0 rfl cs2 _ (HB2.out _ (HK.out.trans hg)) Tryz.underlying29 rfl (by rw[HL.out.2];exact AD) ?_;exact⟨rfl,Sa _⟩
   refine A4 (by kernel_rfl) (fun w' hg=>?_) ?_
   ·refine wp_load_mid 29 (.tmp 4) rfl (w.heap.size) 0 rfl cs1 _ (HB1.out _ (HK.out.trans hg)) Tryz.underlying29 rfl (by rw[HL.out.1];exact AD) ?_;exact⟨rfl,Sa _⟩
   refine A4 (by kernel_rfl) (fun w' hg=>?_) ?_
   ·go_simp;(with_reducible refine(Fb HOK.out.2 HOK.out.1 (HT.out _ (HG.out.trans (HK.out.trans hg))).1 (HT.out _ (HG.out.trans (HK.out.trans hg))).2 (HE2.out _ (HG.out.trans (HK.out.trans hg))) (HE1.out _ (HG.out.trans (HK.out.trans hg))):Calls _ _ _ _ _).mono ?_);rintro e wq ⟨rfl,kq⟩;exact⟨by rw[hr1];try rfl,kq⟩
   refine A4 (by kernel_rfl) (fun w' hg=>?_) ?_
   ·go_simp;exact Sa _
   exact AQ
  case sT=>
   intro w9 hg9;simp only[List.toList_toArray,List.append_eq,List.cons_append,List.nil_append,AI,Act.put,List.setIfInBounds_toArray,List.set_cons_zero,List.set_cons_succ];have HK3:=S9 (HK.out.trans hg9);go_wp2_with(first|((with_reducible refine AG 29 (.tmp 4) rfl ?_);refine wpList_load_mid rfl 29 (.tmp 4) rfl (w.heap.size) 0 rfl cs1 _ (HB1.out _ HK3.out) Tryz.underlying29 rfl (by rw[HL.out.1];exact AD) ?_)|((with_reducible refine AF 29 (.tmp 6) (.tmp 21) rfl ?_);refine Ar 29 (.tmp 6) (.tmp 21) (w.heap.size+1+1) cs1 (AH 0 0) 29 (by rw[HL.out.1];exact AD) (by rw[HL.out.1];rfl) HO.out.1 rfl rfl rfl rfl (HB3.out.grew HK3.out) ?_;intro w8 hb8 k8 d8));refine bodyPost_ret (AR rfl rfl rfl (by rw[HL.out.1];exact AD) Tryz.underlying29 rfl hb8) rfl ?_;exact Cs (by unfold CF;simp[hr1,hr2]) HQ.out (HR1.out _ (Sa _)) (HG.out.trans HK3.out) k8
 by_cases f1:f=1
 ·subst f1;obtain⟨r1,hr1⟩:∃q,Ix e2 e1=q:=⟨_,rfl⟩;obtain⟨r2,hr2⟩:∃q,Ix e1 e2=q:=⟨_,rfl⟩;go_upto_region 2 with fail;rcases r1 with _|_
  ·refine AK [(.int .i64 1),.bool false,.bool false,(.int .i64 1),.bool true,.bool true,.bool true,.func (.func 91) #[] #[],.agg cs2.toArray,.agg cs1.toArray,.bool false,.bool false] _ (by kernel_rfl) (by kernel_rfl) rfl ?sH ?sT
   case sH=>
    simp only[List.toList_toArray,List.append_eq,List.cons_append,List.nil_append,AI,Act.put,List.setIfInBounds_toArray,List.set_cons_zero,List.set_cons_succ];refine A4 (by kernel_rfl) (fun w' hg=>?_) ?_
    ·go_simp;exact Sa _
    refine A4 (by kernel_rfl) (fun w' hg=>?_) ?_
    ·go_simp;first|done|exact Sa _
    refine A4 (by kernel_rfl) (fun w' hg=>?_) ?_
    ·go_simp;exact Sa _
    refine A4 (by kernel_rfl) (fun w' hg=>?_) ?_
    ·go_simp;exact Sa _
    refine A4 (by kernel_rfl) (fun w' hg=>?_) ?_
    ·go_simp;first|done|exact Sa _
    refine A4 (by kernel_rfl) (fun w' hg=>?_) ?_
    ·go_simp;exact Sa _
    refine A4 (by kernel_rfl) (fun w' hg=>?_) ?_
    ·go_simp;exact Sa _
    refine A4 (by kernel_rfl) (fun w' hg=>?_) ?_
    ·go_simp;exact Sa _
    refine A4 (by kernel_rfl) (fun w' hg=>?_) ?_
    ·refine wp_load_mid 29 (.tmp 5) rfl (w.heap.size+1) 0 rfl cs2 _ (HB2.out _ (HK.out.trans hg)) Tryz.underlying29 rfl (by rw[HL.out.2];exact AD) ?_;exact⟨rfl,Sa _⟩
    refine A4 (by kernel_rfl) (fun w' hg=>?_) ?_
    ·refine wp_load_mid 29 (.tmp 4) rfl (w.heap.size) 0 rfl cs1 _ (HB1.out _ (HK.out.trans hg)) Tryz.underlying29 rfl (by rw[HL.out.1];exact AD) ?_;exact⟨rfl,Sa _⟩
    refine A4 (by kernel_rfl) (fun w' hg=>?_) ?_
    ·go_simp;(with_reducible refine(Fb HOK.out.2 HOK.out.1 (HT.out _ (HG.out.trans (HK.out.trans hg))).1 (HT.out _ (HG.out.trans (HK.out.trans hg))).2 (HE2.out _ (HG.out.trans (HK.out.trans hg))) (HE1.out _ (HG.out.trans (HK.out.trans hg))):Calls _ _ _ _ _).mono ?_);rintro e wq ⟨rfl,kq⟩;exact⟨by rw[hr1];try rfl,kq⟩
    refine A4 (by kernel_rfl) (fun w' hg=>?_) ?_
    ·go_simp;exact Sa _
    exact AQ
   case sT=>
    intro w9 hg9;simp only[List.toList_toArray,List.append_eq,List.cons_append,List.nil_append,AI,Act.put,List.setIfInBounds_toArray,List.set_cons_zero,List.set_cons_succ];have HK2:=S9 (HK.out.trans hg9);clear hg9;go_upto_region 4 with fail;refine AK [(.int .i64 1),.bool false,.bool false,undef,undef,undef,undef,.bool false] _ (by kernel_rfl) (by kernel_rfl) rfl ?sH ?sT
    case sH=>
     simp only[List.toList_toArray,List.append_eq,List.cons_append,List.nil_append,AI,Act.put,List.setIfInBounds_toArray,List.set_cons_zero,List.set_cons_succ];refine A4 (by kernel_rfl) (fun w' hg=>?_) ?_
     ·go_simp;exact Sa _
     refine A4 (by kernel_rfl) (fun w' hg=>?_) ?_
     ·go_simp;first|done|exact Sa _
     refine A4 (by kernel_rfl) (fun w' hg=>?_) ?_
     ·go_simp;exact Sa _
     refine AA (by kernel_rfl) (by kernel_rfl) ?_;refine AA (by kernel_rfl) (by kernel_rfl) ?_;refine AA (by kernel_rfl) (by kernel_rfl) ?_;refine AA (by kernel_rfl) (by kernel_rfl) ?_;refine A4 (by kernel_rfl) (fun w' hg=>?_) ?_
     ·go_simp;exact Sa _
     exact AQ
    case sT=>
     intro w9 hg9;simp only[List.toList_toArray,List.append_eq,List.cons_append,List.nil_append,AI,Act.put,List.setIfInBounds_toArray,List.set_cons_zero,List.set_cons_succ];have HK3:=S9 (HK2.out.trans hg9);go_wp2_with(first|((with_reducible refine AG 29 (.tmp 5) rfl ?_);refine wpList_load_mid rfl 29 (.tmp 5) rfl (w.heap.size+1) 0 rfl cs2 _ (HB2.out _ HK3.out) Tryz.underlying29 rfl (by rw[HL.out.2];exact AD) ?_)|((with_reducible refine AF 29 (.tmp 6) (.tmp 30) rfl ?_);refine Ar 29 (.tmp 6) (.tmp 30) (w.heap.size+1+1) cs2 (AH 0 0) 29 (by rw[HL.out.2];exact AD) (by rw[HL.out.2];rfl) HO.out.2 rfl rfl rfl rfl (HB3.out.grew HK3.out) ?_;intro w8 hb8 k8 d8)|((with_reducible refine AF 29 (.tmp 6) (.tmp 31) rfl ?_);refine Ar 29 (.tmp 6) (.tmp 31) (w.heap.size+1+1) (AH 0 0) (AH 0 0) 29 AD rfl (AX _ _) rfl rfl rfl rfl (HB3.out.grew HK3.out) ?_;intro w8 hb8 k8 d8));refine bodyPost_ret (AR rfl rfl rfl AD Tryz.underlying29 rfl hb8) rfl ?_;exact BC (by unfold CF;simp[hr1,hr2]) (HG.out.trans HK3.out) k8
  refine AK [(.int .i64 1),.bool false,.bool false,(.int .i64 1),.bool true,.bool true,.bool true,.func (.func 91) #[] #[],.agg cs2.toArray,.agg cs1.toArray,.bool true,.bool true] _ (by kernel_rfl) (by kernel_rfl) rfl ?sH ?sT
  case sH=>
   simp only[List.toList_toArray,List.append_eq,List.cons_append,List.nil_append,AI,Act.put,List.setIfInBounds_toArray,List.set_cons_zero,List.set_cons_succ];refine A4 (by kernel_rfl) (fun w' hg=>?_) ?_
   ·go_simp;exact Sa _
   refine A4 (by kernel_rfl) (fun w' hg=>?_) ?_
   ·go_simp;first|done|exact Sa _
   refine A4 (by kernel_rfl) (fun w' hg=>?_) ?_
   ·go_simp;exact Sa _
   refine A4 (by kernel_rfl) (fun w' hg=>?_) ?_
   ·go_simp;exact Sa _
   refine A4 (by kernel_rfl) (fun w' hg=>?_) ?_
   ·go_simp;first|done|exact Sa _
   refine A4 (by kernel_rfl) (fun w' hg=>?_) ?_
   ·go_simp;exact Sa _
   refine A4 (by kernel_rfl) (fun w' hg=>?_) ?_
   ·go_simp;exact Sa _
   refine A4 (by kernel_rfl) (fun w' hg=>?_) ?_
   ·go_simp;exact Sa _
   refine A4 (by kernel_rfl) (fun w' hg=>?_) ?_
   ·refine wp_load_mid 29 (.tmp 5) rfl (w.heap.size+1) 0 rfl cs2 _ (HB2.out _ (HK.out.trans hg)) Tryz.underlying29 rfl (by rw[HL.out.2];exact AD) ?_;exact⟨rfl,Sa _⟩
   refine A4 (by kernel_rfl) (fun w' hg=>?_) ?_
   ·refine wp_load_mid 29 (.tmp 4) rfl (w.heap.size) 0 rfl cs1 _ (HB1.out _ (HK.out.trans hg)) Tryz.underlying29 rfl (by rw[HL.out.1];exact AD) ?_;exact⟨rfl,Sa _⟩
   refine A4 (by kernel_rfl) (fun w' hg=>?_) ?_
   ·go_simp;(with_reducible refine(Fb HOK.out.2 HOK.out.1 (HT.out _ (HG.out.trans (HK.out.trans hg))).1 (HT.out _ (HG.out.trans (HK.out.trans hg))).2 (HE2.out _ (HG.out.trans (HK.out.trans hg))) (HE1.out _ (HG.out.trans (HK.out.trans hg))):Calls _ _ _ _ _).mono ?_);rintro e wq ⟨rfl,kq⟩;exact⟨by rw[hr1];try rfl,kq⟩
   refine A4 (by kernel_rfl) (fun w' hg=>?_) ?_
   ·go_simp;exact Sa _
   exact AQ
  case sT=>
   intro w9 hg9;simp only[List.toList_toArray,List.append_eq,List.cons_append,List.nil_append,AI,Act.put,List.setIfInBounds_toArray,List.set_cons_zero,List.set_cons_succ];have HK3:=S9 (HK.out.trans hg9);go_wp2_with(first|((with_reducible refine AG 29 (.tmp 4) rfl ?_);refine wpList_load_mid rfl 29 (.tmp 4) rfl (w.heap.size) 0 rfl cs1 _ (HB1.out _ HK3.out) Tryz.underlying29 rfl (by rw[HL.out.1];exact AD) ?_)|((with_reducible refine AF 29 (.tmp 6) (.tmp 21) rfl ?_);refine Ar 29 (.tmp 6) (.tmp 21) (w.heap.size+1+1) cs1 (AH 0 0) 29 (by rw[HL.out.1];exact AD) (by rw[HL.out.1];rfl) HO.out.1 rfl rfl rfl rfl (HB3.out.grew HK3.out) ?_;intro w8 hb8 k8 d8));refine bodyPost_ret (AR rfl rfl rfl (by rw[HL.out.1];exact AD) Tryz.underlying29 rfl hb8) rfl ?_;exact Cs (by unfold CF;simp[hr1,hr2]) HQ.out (HR1.out _ (Sa _)) (HG.out.trans HK3.out) k8
 have HF:=S9 (SC f0 f1);have t0:(f==0)=false:=by rw[SA];exact f0
 clear f0 f1;obtain⟨r1,hr1⟩:∃q,Ix e2 e1=q:=⟨_,rfl⟩;obtain⟨r2,hr2⟩:∃q,Ix e1 e2=q:=⟨_,rfl⟩;go_upto_region 2 with fail;refine AK [(.int .i64 f),.bool false,.bool false,(.int .i64 f),.bool false,.bool false,.bool false,undef,undef,undef,undef,.bool false] _ (by kernel_rfl) (by kernel_rfl) rfl ?sH ?sT
 case sH=>
  simp only[List.toList_toArray,List.append_eq,List.cons_append,List.nil_append,AI,Act.put,List.setIfInBounds_toArray,List.set_cons_zero,List.set_cons_succ];refine A4 (by kernel_rfl) (fun w' hg=>?_) ?_
  ·go_simp;exact Sa _
  refine A4 (by kernel_rfl) (fun w' hg=>?_) ?_
  ·go_simp;first|done|exact Sa _|exact⟨HF.out.1,Sa _⟩|exact⟨HF.out.2,Sa _⟩
  refine A4 (by kernel_rfl) (fun w' hg=>?_) ?_
  ·go_simp;exact Sa _
  refine A4 (by kernel_rfl) (fun w' hg=>?_) ?_
  ·go_simp;exact Sa _
  refine A4 (by kernel_rfl) (fun w' hg=>?_) ?_
  ·go_simp;first|done|exact Sa _|exact⟨HF.out.1,Sa _⟩|exact⟨HF.out.2,Sa _⟩
  refine A4 (by kernel_rfl) (fun w' hg=>?_) ?_
  ·go_simp;exact Sa _
  refine A4 (by kernel_rfl) (fun w' hg=>?_) ?_
  ·go_simp;exact Sa _
  refine AA (by kernel_rfl) (by kernel_rfl) ?_;refine AA (by kernel_rfl) (by kernel_rfl) ?_;refine AA (by kernel_rfl) (by kernel_rfl) ?_;refine AA (by kernel_rfl) (by kernel_rfl) ?_;refine A4 (by kernel_rfl) (fun w' hg=>?_) ?_
  ·go_simp;exact Sa _
  exact AQ
 case sT=>
  intro w9 hg9;simp only[List.toList_toArray,List.append_eq,List.cons_append,List.nil_append,AI,Act.put,List.setIfInBounds_toArray,List.set_cons_zero,List.set_cons_succ];have HK2:=S9 (HK.out.trans hg9);clear hg9;go_upto_region 4 with fail;refine AK [(.int .i64 f),.bool false,.bool false,undef,undef,undef,undef,.bool false] _ (by kernel_rfl) (by kernel_rfl) rfl ?sH ?sT
  case sH=>
   simp only[List.toList_toArray,List.append_eq,List.cons_append,List.nil_append,AI,Act.put,List.setIfInBounds_toArray,List.set_cons_zero,List.set_cons_succ];refine A4 (by kernel_rfl) (fun w' hg=>?_) ?_
   ·go_simp;exact Sa _
   refine A4 (by kernel_rfl) (fun w' hg=>?_) ?_
   ·go_simp;first|done|exact Sa _|exact⟨HF.out.1,Sa _⟩|exact⟨HF.out.2,Sa _⟩
   refine A4 (by kernel_rfl) (fun w' hg=>?_) ?_
   ·go_simp;exact Sa _
   refine AA (by kernel_rfl) (by kernel_rfl) ?_;refine AA (by kernel_rfl) (by kernel_rfl) ?_;refine AA (by kernel_rfl) (by kernel_rfl) ?_;refine AA (by kernel_rfl) (by kernel_rfl) ?_;refine A4 (by kernel_rfl) (fun w' hg=>?_) ?_
   ·go_simp;exact Sa _
   exact AQ
  case sT=>
   intro w9 hg9;simp only[List.toList_toArray,List.append_eq,List.cons_append,List.nil_append,AI,Act.put,List.setIfInBounds_toArray,List.set_cons_zero,List.set_cons_succ];have HK3:=S9 (HK2.out.trans hg9);go_wp2_with(first|((with_reducible refine AG 29 (.tmp 5) rfl ?_);refine wpList_load_mid rfl 29 (.tmp 5) rfl (w.heap.size+1) 0 rfl cs2 _ (HB2.out _ HK3.out) Tryz.underlying29 rfl (by rw[HL.out.2];exact AD) ?_)|((with_reducible refine AF 29 (.tmp 6) (.tmp 30) rfl ?_);refine Ar 29 (.tmp 6) (.tmp 30) (w.heap.size+1+1) cs2 (AH 0 0) 29 (by rw[HL.out.2];exact AD) (by rw[HL.out.2];rfl) HO.out.2 rfl rfl rfl rfl (HB3.out.grew HK3.out) ?_;intro w8 hb8 k8 d8)|((with_reducible refine AF 29 (.tmp 6) (.tmp 31) rfl ?_);refine Ar 29 (.tmp 6) (.tmp 31) (w.heap.size+1+1) (AH 0 0) (AH 0 0) 29 AD rfl (AX _ _) rfl rfl rfl rfl (HB3.out.grew HK3.out) ?_;intro w8 hb8 k8 d8));refine bodyPost_ret (AR rfl rfl rfl AD Tryz.underlying29 rfl hb8) rfl ?_;exact BC (by unfold CF;simp[HF.out.1,HF.out.2,hr1,hr2]) (HG.out.trans HK3.out) k8
def Ct (f:Int) (e1 e2:Ex):Option Ex:=if f=1∧FV e1 e2=true∧DB e1=false then some (BB 2 e1 (BG 0 1))else none
theorem MD {f:Int} {e1 e2:Ex} (h1:CG e1) (h2:CG e2) {Q:Nat→Prop} {w:World} {cs1 cs2:List Value} (hwt:D5 w) (hot:Dc w) (hq:∀b,Q b→b<w.heap.size) (hr1:AW w Q e1 cs1) (hr2:AW w Q e2 cs2):
  Calls Tryz.prog 60 #[.int .i64 f,.agg cs1.toArray,.agg cs2.toArray] w (CO (Ct f e1 e2) Q w):=by
 have HQ:=S9 hq;have HR1:=S9 (fun w' (g:A5 w w')=>hr1.grewQ hq g);have HR2:=S9 (fun w' (g:A5 w w')=>hr2.grewQ hq g);have HE1:=S9 (fun w' (g:A5 w w')=>AW.toB (fun b hb=>SE (hq b hb) g.size) _ _ (hr1.grewQ hq g));have HE2:=S9 (fun w' (g:A5 w w')=>AW.toB (fun b hb=>SE (hq b hb) g.size) _ _ (hr2.grewQ hq g));have HL:=S9 (SC hr1.len hr2.len);have HO:=S9 (SC (hr1.one_ hq) (hr2.one_ hq));have HT:=S9 (fun w' (g:A5 w w')=>SC (hwt.grew g) (hot.keep g (fun h=>h)));have HOK:=S9 (SC h1 h2);obtain⟨hb1,hb2,hb3,hG⟩:=Cb w 29 29 29 cs1.toArray cs2.toArray (AH 0 0).toArray;clear hq hr1 hr2 h1 h2 hwt hot;go_enter Tryz.func60,Tryz.ntmps60;go_upto_region 1 with fail;change Code.wp _ _ _ _ (((w.alloc (.cells cs1.toArray 29)).alloc (.cells cs2.toArray 29)).alloc (.cells (AH 0 0).toArray 29));generalize ((w.alloc (.cells cs1.toArray 29)).alloc (.cells cs2.toArray 29)).alloc (.cells (AH 0 0).toArray 29)=w1 at*;have HB1:=S9 (show ∀w',A5 w1 w'→w'.rangeAt w.heap.size 0 cs1 from fun w' g=>(hb1.grew g).rangeN 0 _ (by simp));have HB2:=S9 (show ∀w',A5 w1 w'→w'.rangeAt (w.heap.size+1) 0 cs2 from fun w' g=>(hb2.grew g).rangeN 0 _ (by simp));have HB3:=S9 hb3;have HG:=S9 hG;have HK:=S9 (Sa w1);clear hb1 hb2 hb3 hG;have HS:=S9 (show w.heap.size+3≤w1.heap.size from HB3.out.lt);obtain⟨va1,va2,va3,hca, -⟩:=(HR1.out _ (Sa _)).open_;have HC1:=S9 hca;clear hca;obtain⟨q,hq⟩:∃q,FV e1 e2=q:=⟨_,rfl⟩;obtain⟨r,hr⟩:∃q,DB e1=q:=⟨_,rfl⟩;by_cases f1:f=1
 ·subst f1;rcases q with _|_
  ·refine AK [(.int .i64 1),.bool false,.bool false,.agg cs1.toArray,.agg cs2.toArray,.bool false,.bool true,.bool true,.bool true,undef,undef,.bool true] _ (by kernel_rfl) (by kernel_rfl) rfl ?sH ?sT
   case sH=>
    simp only[List.toList_toArray,List.append_eq,List.cons_append,List.nil_append,AI,Act.put,List.setIfInBounds_toArray,List.set_cons_zero,List.set_cons_succ];refine A4 (by kernel_rfl) (fun w' hg=>?_) ?_
    ·go_simp;exact Sa _
    refine A4 (by kernel_rfl) (fun w' hg=>?_) ?_
    ·go_simp;first|done|exact Sa _|exact⟨HF.out,Sa _⟩
    refine A4 (by kernel_rfl) (fun w' hg=>?_) ?_
    ·go_simp;exact Sa _
    refine A4 (by kernel_rfl) (fun w' hg=>?_) ?_
    ·refine wp_load_mid 29 (.tmp 4) rfl (w.heap.size) 0 rfl cs1 _ (HB1.out _ (HK.out.trans hg)) Tryz.underlying29 rfl (by rw[HL.out.1];exact AD) ?_;exact⟨rfl,Sa _⟩
    refine A4 (by kernel_rfl) (fun w' hg=>?_) ?_
    ·refine wp_load_mid 29 (.tmp 5) rfl (w.heap.size+1) 0 rfl cs2 _ (HB2.out _ (HK.out.trans hg)) Tryz.underlying29 rfl (by rw[HL.out.2];exact AD) ?_;exact⟨rfl,Sa _⟩
    refine A4 (by kernel_rfl) (fun w' hg=>?_) ?_
    ·go_simp;(with_reducible refine(GW HOK.out.1 HOK.out.2 (HE1.out _ (HG.out.trans (HK.out.trans hg))) (HE2.out _ (HG.out.trans (HK.out.trans hg))):Calls _ _ _ _ _).mono ?_);rintro e wq ⟨rfl,kq⟩;exact⟨by rw[hq];try rfl,kq⟩
    refine A4 (by kernel_rfl) (fun w' hg=>?_) ?_
    ·go_simp;exact Sa _
    refine A4 (by kernel_rfl) (fun w' hg=>?_) ?_
    ·go_simp;exact Sa _
    refine A4 (by kernel_rfl) (fun w' hg=>?_) ?_
    ·go_simp;exact Sa _
    refine AA (by kernel_rfl) (by kernel_rfl) ?_;refine AA (by kernel_rfl) (by kernel_rfl) ?_;refine A4 (by kernel_rfl) (fun w' hg=>?_) ?_
    ·go_simp;exact Sa _
    exact AQ
   case sT=>
    intro w9 hg9;simp only[List.toList_toArray,List.append_eq,List.cons_append,List.nil_append,AI,Act.put,List.setIfInBounds_toArray,List.set_cons_zero,List.set_cons_succ];have HK3:=S9 (HK.out.trans hg9);go_wp2_with(((with_reducible refine AF 29 (.tmp 6) (.tmp 21) rfl ?_);refine Ar 29 (.tmp 6) (.tmp 21) (w.heap.size+1+1) (AH 0 0) (AH 0 0) 29 AD rfl (AX _ _) rfl rfl rfl rfl (HB3.out.grew HK3.out) ?_;intro w8 hb8 k8 d8));refine bodyPost_ret (AR rfl rfl rfl AD Tryz.underlying29 rfl hb8) rfl ?_;exact BC (by unfold Ct;simp[hq,hr]) (HG.out.trans HK3.out) k8
  rcases r with _|_
  ·refine AK [(.int .i64 1),.bool false,.bool false,.agg cs1.toArray,.agg cs2.toArray,.bool true,.bool false,.bool false,.bool false,.agg cs1.toArray,.bool false,.bool false] _ (by kernel_rfl) (by kernel_rfl) rfl ?sH ?sT
   case sH=>
    simp only[List.toList_toArray,List.append_eq,List.cons_append,List.nil_append,AI,Act.put,List.setIfInBounds_toArray,List.set_cons_zero,List.set_cons_succ];refine A4 (by kernel_rfl) (fun w' hg=>?_) ?_
    ·go_simp;exact Sa _
    refine A4 (by kernel_rfl) (fun w' hg=>?_) ?_
    ·go_simp;first|done|exact Sa _|exact⟨HF.out,Sa _⟩
    refine A4 (by kernel_rfl) (fun w' hg=>?_) ?_
    ·go_simp;exact Sa _
    refine A4 (by kernel_rfl) (fun w' hg=>?_) ?_
    ·refine wp_load_mid 29 (.tmp 4) rfl (w.heap.size) 0 rfl cs1 _ (HB1.out _ (HK.out.trans hg)) Tryz.underlying29 rfl (by rw[HL.out.1];exact AD) ?_;exact⟨rfl,Sa _⟩
    refine A4 (by kernel_rfl) (fun w' hg=>?_) ?_
    ·refine wp_load_mid 29 (.tmp 5) rfl (w.heap.size+1) 0 rfl cs2 _ (HB2.out _ (HK.out.trans hg)) Tryz.underlying29 rfl (by rw[HL.out.2];exact AD) ?_;exact⟨rfl,Sa _⟩
    refine A4 (by kernel_rfl) (fun w' hg=>?_) ?_
    ·go_simp;(with_reducible refine(GW HOK.out.1 HOK.out.2 (HE1.out _ (HG.out.trans (HK.out.trans hg))) (HE2.out _ (HG.out.trans (HK.out.trans hg))):Calls _ _ _ _ _).mono ?_);rintro e wq ⟨rfl,kq⟩;exact⟨by rw[hq];try rfl,kq⟩
    refine A4 (by kernel_rfl) (fun w' hg=>?_) ?_
    ·go_simp;exact Sa _
    refine A4 (by kernel_rfl) (fun w' hg=>?_) ?_
    ·go_simp;exact Sa _
    refine A4 (by kernel_rfl) (fun w' hg=>?_) ?_
    ·go_simp;exact Sa _
    refine A4 (by kernel_rfl) (fun w' hg=>?_) ?_
    ·refine wp_load_mid 29 (.tmp 4) rfl (w.heap.size) 0 rfl cs1 _ (HB1.out _ (HK.out.trans hg)) Tryz.underlying29 rfl (by rw[HL.out.1];exact AD) ?_;exact⟨rfl,Sa _⟩
    refine A4 (by kernel_rfl) (fun w' hg=>?_) ?_
    ·go_simp;(with_reducible refine(P2 HOK.out.1 (HE1.out _ (HG.out.trans (HK.out.trans hg))):Calls _ _ _ _ _).mono ?_);rintro e wq ⟨rfl,kq⟩;exact⟨by rw[hr];try rfl,kq⟩
    refine A4 (by kernel_rfl) (fun w' hg=>?_) ?_
    ·go_simp;exact Sa _
    exact AQ
   case sT=>
    intro w9 hg9;simp only[List.toList_toArray,List.append_eq,List.cons_append,List.nil_append,AI,Act.put,List.setIfInBounds_toArray,List.set_cons_zero,List.set_cons_succ];have HK3:=S9 (HK.out.trans hg9);go_wp2_with(first|((with_reducible refine AF 29 (.tmp 8) (.tmp 23) rfl ?_);refine Ar 29 (.tmp 8) (.tmp 23) (w9.heap.size) (AH 0 1) (AH 0 0) 29 AD rfl (AX _ _) rfl rfl rfl rfl (Sc w9 29 _) ?_;intro w6 hb6 k6 d6;have HK4:=S9 (HK3.out.trans (Sb ((Sa w9).alloc (.cells (AH 0 0).toArray 29)) k6 (fun i hi e=>by omega)));clear k6 d6)|((with_reducible refine AG 29 (.tmp 4) rfl ?_);refine wpList_load_mid rfl 29 (.tmp 4) rfl (w.heap.size) 0 rfl cs1 _ (HB1.out _ HK4.out) Tryz.underlying29 rfl (by rw[HL.out.1];exact AD) ?_)|((with_reducible refine AG 29 (.tmp 8) rfl ?_);refine BR 29 Tryz.underlying29 rfl (.tmp 8) (w9.heap.size) (AH 0 1) 29 AD rfl rfl rfl hb6 ?_)|((with_reducible refine ES 27 2 #[(0,.tmp 24),(1,.tmp 25)] rfl ?_);refine Di (ea:=e1) (eb:=BG 0 1) rfl (.tmp 24) (.tmp 25) rfl (by rw[←HC1.out];rfl) (by rfl) ?_;intro w7 hbk g7;have HBK:=S9 hbk;have HG7:=S9 g7;clear hbk g7)|((with_reducible refine AF 29 (.tmp 6) (.tmp 27) rfl ?_);refine Ar 29 (.tmp 6) (.tmp 27) (w.heap.size+1+1) (Fx 2 w6.heap.size) (AH 0 0) 29 AD rfl (Dg _ _) rfl rfl rfl rfl (HB3.out.grew (HK4.out.trans HG7.out)) ?_;intro w8 hb8 k8 d8));refine bodyPost_ret (AR rfl rfl rfl AD Tryz.underlying29 rfl hb8) rfl ?_;have g8:A5 w w8:=Sb (HG.out.trans (HK4.out.trans HG7.out)) k8 fun i hi e=>by omega
    have hz:=(HG.out.trans HK4.out).size;have hz1:=HS.out;have hz4:=HK4.out.size;have hbk:=HBK.out;rw[←HC1.out]at hbk;have hlt:=hbk.lt;have hz8:=k8.size;rw[show Ct 1 e1 e2=some (BB 2 e1 (BG 0 1))from by unfold Ct;simp[hq,hr]];refine⟨Fx 2 w6.heap.size,rfl,?_,g8⟩;refine FH ?_ ?_ (.inr ⟨hz,by omega⟩) (hbk.keep k8 (by omega)) HL.out.1 rfl
    ·exact AW.keep (S:=fun _=>False) (fun b hb=>⟨HQ.out b hb,fun h=>h,.inl hb⟩) g8 _ _ (HR1.out _ (Sa _))
    exact AW.mk_ (e:=BG 0 1) (C0.nil _ _ _) (C0.nil _ _ _) (DH.nil _ _)
  refine AK [(.int .i64 1),.bool false,.bool false,.agg cs1.toArray,.agg cs2.toArray,.bool true,.bool false,.bool false,.bool false,.agg cs1.toArray,.bool true,.bool true] _ (by kernel_rfl) (by kernel_rfl) rfl ?sH ?sT
  case sH=>
   simp only[List.toList_toArray,List.append_eq,List.cons_append,List.nil_append,AI,Act.put,List.setIfInBounds_toArray,List.set_cons_zero,List.set_cons_succ];refine A4 (by kernel_rfl) (fun w' hg=>?_) ?_
   ·go_simp;exact Sa _
   refine A4 (by kernel_rfl) (fun w' hg=>?_) ?_
   ·go_simp;first|done|exact Sa _|exact⟨HF.out,Sa _⟩
   refine A4 (by kernel_rfl) (fun w' hg=>?_) ?_
   ·go_simp;exact Sa _
   refine A4 (by kernel_rfl) (fun w' hg=>?_) ?_
   ·refine wp_load_mid 29 (.tmp 4) rfl (w.heap.size) 0 rfl cs1 _ (HB1.out _ (HK.out.trans hg)) Tryz.underlying29 rfl (by rw[HL.out.1];exact AD) ?_;exact⟨rfl,Sa _⟩
   refine A4 (by kernel_rfl) (fun w' hg=>?_) ?_
   ·refine wp_load_mid 29 (.tmp 5) rfl (w.heap.size+1) 0 rfl cs2 _ (HB2.out _ (HK.out.trans hg)) Tryz.underlying29 rfl (by rw[HL.out.2];exact AD) ?_;exact⟨rfl,Sa _⟩
   refine A4 (by kernel_rfl) (fun w' hg=>?_) ?_
   ·go_simp;(with_reducible refine(GW HOK.out.1 HOK.out.2 (HE1.out _ (HG.out.trans (HK.out.trans hg))) (HE2.out _ (HG.out.trans (HK.out.trans hg))):Calls _ _ _ _ _).mono ?_);rintro e wq ⟨rfl,kq⟩;exact⟨by rw[hq];try rfl,kq⟩
   refine A4 (by kernel_rfl) (fun w' hg=>?_) ?_
   ·go_simp;exact Sa _
   refine A4 (by kernel_rfl) (fun w' hg=>?_) ?_
   ·go_simp;exact Sa _
   refine A4 (by kernel_rfl) (fun w' hg=>?_) ?_
   ·go_simp;exact Sa _
   refine A4 (by kernel_rfl) (fun w' hg=>?_) ?_
   ·refine wp_load_mid 29 (.tmp 4) rfl (w.heap.size) 0 rfl cs1 _ (HB1.out _ (HK.out.trans hg)) Tryz.underlying29 rfl (by rw[HL.out.1];exact AD) ?_;exact⟨rfl,Sa _⟩
   refine A4 (by kernel_rfl) (fun w' hg=>?_) ?_
   ·go_simp;(with_reducible refine(P2 HOK.out.1 (HE1.out _ (HG.out.trans (HK.out.trans hg))):Calls _ _ _ _ _).mono ?_);rintro e wq ⟨rfl,kq⟩;exact⟨by rw[hr];try rfl,kq⟩
   refine A4 (by kernel_rfl) (fun w' hg=>?_) ?_
   ·go_simp;exact Sa _
   exact AQ
  case sT=>
   intro w9 hg9;simp only[List.toList_toArray,List.append_eq,List.cons_append,List.nil_append,AI,Act.put,List.setIfInBounds_toArray,List.set_cons_zero,List.set_cons_succ];have HK3:=S9 (HK.out.trans hg9);go_wp2_with(((with_reducible refine AF 29 (.tmp 6) (.tmp 21) rfl ?_);refine Ar 29 (.tmp 6) (.tmp 21) (w.heap.size+1+1) (AH 0 0) (AH 0 0) 29 AD rfl (AX _ _) rfl rfl rfl rfl (HB3.out.grew HK3.out) ?_;intro w8 hb8 k8 d8));refine bodyPost_ret (AR rfl rfl rfl AD Tryz.underlying29 rfl hb8) rfl ?_;exact BC (by unfold Ct;simp[hq,hr]) (HG.out.trans HK3.out) k8
 have HF:=S9 f1;clear f1;refine AK [(.int .i64 f),.bool true,.bool true,undef,undef,undef,undef,.bool true,.bool true,undef,undef,.bool true] _ (by kernel_rfl) (by kernel_rfl) rfl ?sH ?sT
 case sH=>
  simp only[List.toList_toArray,List.append_eq,List.cons_append,List.nil_append,AI,Act.put,List.setIfInBounds_toArray,List.set_cons_zero,List.set_cons_succ];refine A4 (by kernel_rfl) (fun w' hg=>?_) ?_
  ·go_simp;exact Sa _
  refine A4 (by kernel_rfl) (fun w' hg=>?_) ?_
  ·go_simp;first|done|exact Sa _|exact⟨HF.out,Sa _⟩
  refine A4 (by kernel_rfl) (fun w' hg=>?_) ?_
  ·go_simp;exact Sa _
  refine AA (by kernel_rfl) (by kernel_rfl) ?_;refine AA (by kernel_rfl) (by kernel_rfl) ?_;refine AA (by kernel_rfl) (by kernel_rfl) ?_;refine AA (by kernel_rfl) (by kernel_rfl) ?_;refine A4 (by kernel_rfl) (fun w' hg=>?_) ?_
  ·go_simp;exact Sa _
  refine A4 (by kernel_rfl) (fun w' hg=>?_) ?_
  ·go_simp;exact Sa _
  refine AA (by kernel_rfl) (by kernel_rfl) ?_;refine AA (by kernel_rfl) (by kernel_rfl) ?_;refine A4 (by kernel_rfl) (fun w' hg=>?_) ?_
  ·go_simp;exact Sa _
  exact AQ
 case sT=>
  intro w9 hg9;simp only[List.toList_toArray,List.append_eq,List.cons_append,List.nil_append,AI,Act.put,List.setIfInBounds_toArray,List.set_cons_zero,List.set_cons_succ];have HK3:=S9 (HK.out.trans hg9);go_wp2_with(((with_reducible refine AF 29 (.tmp 6) (.tmp 21) rfl ?_);refine Ar 29 (.tmp 6) (.tmp 21) (w.heap.size+1+1) (AH 0 0) (AH 0 0) 29 AD rfl (AX _ _) rfl rfl rfl rfl (HB3.out.grew HK3.out) ?_;intro w8 hb8 k8 d8));refine bodyPost_ret (AR rfl rfl rfl AD Tryz.underlying29 rfl hb8) rfl ?_;exact BC (by unfold Ct;simp[HF.out,hq,hr]) (HG.out.trans HK3.out) k8
end Go.Proofs.YthpflelgbadkcaaGreatDoor
