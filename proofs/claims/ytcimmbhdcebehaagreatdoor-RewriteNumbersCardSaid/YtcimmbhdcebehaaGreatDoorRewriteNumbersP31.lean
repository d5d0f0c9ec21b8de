/- package rewrite: the rules nothing, vanish. -/
import Derived.Test.YtcimmbhdcebehaaGreatDoorRewriteNumbersP01
import Derived.Test.YtcimmbhdcebehaaGreatDoorRewriteNumbersP30
set_option maxRecDepth 100000
set_option maxHeartbeats 12800000
set_option linter.unusedVariables false
set_option linter.unusedSimpArgs false
namespace Go.Proofs.YtcimmbhdcebehaaGreatDoor
open Go.RowKit Pl
def nothingE (f:Int) (e1 e2:Ex):Option Ex:=if(f=0∨f=1)∧notE e2 e1=true then some e1 else if f=0∧notE e1 e2=true then some e2 else none
theorem nothing_any {f:Int} {e1 e2:Ex} (h1:RwOk e1) (h2:RwOk e2) {Q:Nat→Prop} {w:World} {cs1 cs2:List Value} (hwt:WTab w) (hot:OTab w) (hq:∀b,Q b→b<w.heap.size) (hr1:RdEQ w Q e1 cs1) (hr2:RdEQ w Q e2 cs2):
  Calls Tryz.prog 60 #[.int .i64 f,.agg cs1.toArray,.agg cs2.toArray] w (RulePost (nothingE f e1 e2) Q w):=by
 have HQ:=Lib.hid hq;have HR1:=Lib.hid (fun w' (g:Grew w w')=>hr1.grewQ hq g);have HR2:=Lib.hid (fun w' (g:Grew w w')=>hr2.grewQ hq g);have HE1:=Lib.hid (fun w' (g:Grew w w')=>RdEQ.toB (fun b hb=>Nat.lt_of_lt_of_le (hq b hb) g.size) _ _ (hr1.grewQ hq g));have HE2:=Lib.hid (fun w' (g:Grew w w')=>RdEQ.toB (fun b hb=>Nat.lt_of_lt_of_le (hq b hb) g.size) _ _ (hr2.grewQ hq g));have HL:=Lib.hid (And.intro hr1.len hr2.len);have HO:=Lib.hid (And.intro (hr1.one_ hq) (hr2.one_ hq));have HT:=Lib.hid (fun w' (g:Grew w w')=>And.intro (hwt.grew g) (hot.keep g (fun h=>h)));have HOK:=Lib.hid (And.intro h1 h2);obtain⟨hb1,hb2,hb3,hG⟩:=boxes3 w 34 34 34 cs1.toArray cs2.toArray (numL 0 0).toArray;clear hq hr1 hr2 h1 h2 hwt hot;go_enter Tryz.func60,Tryz.ntmps60;go_upto_region 1 with fail;change Code.wp _ _ _ _ (((w.alloc (.cells cs1.toArray 34)).alloc (.cells cs2.toArray 34)).alloc (.cells (numL 0 0).toArray 34));generalize ((w.alloc (.cells cs1.toArray 34)).alloc (.cells cs2.toArray 34)).alloc (.cells (numL 0 0).toArray 34)=w1 at*;have HB1:=Lib.hid (show ∀w',Grew w1 w'→w'.rangeAt w.heap.size 0 cs1 from fun w' g=>(hb1.grew g).rangeN 0 _ (by simp));have HB2:=Lib.hid (show ∀w',Grew w1 w'→w'.rangeAt (w.heap.size+1) 0 cs2 from fun w' g=>(hb2.grew g).rangeN 0 _ (by simp));have HB3:=Lib.hid hb3;have HG:=Lib.hid hG;have HK:=Lib.hid (Grew.refl w1);clear hb1 hb2 hb3 hG;by_cases f0:f=0
 ·subst f0;obtain⟨r1,hr1⟩:∃q,notE e2 e1=q:=⟨_,rfl⟩;obtain⟨r2,hr2⟩:∃q,notE e1 e2=q:=⟨_,rfl⟩;go_upto_region 2 with fail;rcases r1 with _|_
  ·refine region_seqG [(.int .i64 0),.bool true,.bool true,undef,undef,.bool true,.bool true,.func (.func 87) #[] #[],.agg cs2.toArray,.agg cs1.toArray,.bool false,.bool false] _ (by kernel_rfl) (by kernel_rfl) rfl ?sH ?sT
   case sH=>
    simp only[List.toList_toArray,List.append_eq,List.cons_append,List.nil_append,putAll,Act.put,List.setIfInBounds_toArray,List.set_cons_zero,List.set_cons_succ];refine headG_run (by kernel_rfl) (fun w' hg=>?_) ?_
    ·go_simp;exact Grew.refl _
    refine headG_run (by kernel_rfl) (fun w' hg=>?_) ?_
    ·go_simp;first|done|exact Grew.refl _
    refine headG_run (by kernel_rfl) (fun w' hg=>?_) ?_
    ·go_simp;exact Grew.refl _
    refine headG_skip (by kernel_rfl) (by kernel_rfl) ?_;refine headG_skip (by kernel_rfl) (by kernel_rfl) ?_;refine headG_run (by kernel_rfl) (fun w' hg=>?_) ?_
    ·go_simp;exact Grew.refl _
    refine headG_run (by kernel_rfl) (fun w' hg=>?_) ?_
    ·go_simp;exact Grew.refl _
    refine headG_run (by kernel_rfl) (fun w' hg=>?_) ?_
    ·go_simp;exact Grew.refl _
    refine headG_run (by kernel_rfl) (fun w' hg=>?_) ?_
    ·refine wp_load_mid 34 (.tmp 5) rfl (w.heap.size+1) 0 rfl cs2 _ (HB2.out _ (HK.out.trans hg)) Tryz.underlying34 rfl (by rw[HL.out.2];exact infoX) ?_;exact⟨rfl,Grew.refl _⟩
    refine headG_run (by kernel_rfl) (fun w' hg=>?_) ?_
    ·refine wp_load_mid 34 (.tmp 4) rfl (w.heap.size) 0 rfl cs1 _ (HB1.out _ (HK.out.trans hg)) Tryz.underlying34 rfl (by rw[HL.out.1];exact infoX) ?_;exact⟨rfl,Grew.refl _⟩
    refine headG_run (by kernel_rfl) (fun w' hg=>?_) ?_
    ·go_simp;(with_reducible refine(no1_any HOK.out.2 HOK.out.1 (HT.out _ (HG.out.trans (HK.out.trans hg))).1 (HT.out _ (HG.out.trans (HK.out.trans hg))).2 (HE2.out _ (HG.out.trans (HK.out.trans hg))) (HE1.out _ (HG.out.trans (HK.out.trans hg))):Calls _ _ _ _ _).mono ?_);rintro e wq ⟨rfl,kq⟩;exact⟨by rw[hr1];try rfl,kq⟩
    refine headG_run (by kernel_rfl) (fun w' hg=>?_) ?_
    ·go_simp;exact Grew.refl _
    exact headG_nil
   case sT=>
    intro w9 hg9;simp only[List.toList_toArray,List.append_eq,List.cons_append,List.nil_append,putAll,Act.put,List.setIfInBounds_toArray,List.set_cons_zero,List.set_cons_succ];have HK2:=Lib.hid (HK.out.trans hg9);clear hg9;go_upto_region 4 with fail;rcases r2 with _|_
    ·refine region_seqG [(.int .i64 0),.bool true,.bool true,.func (.func 87) #[] #[],.agg cs1.toArray,.agg cs2.toArray,.bool false,.bool false] _ (by kernel_rfl) (by kernel_rfl) rfl ?sH ?sT
     case sH=>
      simp only[List.toList_toArray,List.append_eq,List.cons_append,List.nil_append,putAll,Act.put,List.setIfInBounds_toArray,List.set_cons_zero,List.set_cons_succ];refine headG_run (by kernel_rfl) (fun w' hg=>?_) ?_
      ·go_simp;exact Grew.refl _
      refine headG_run (by kernel_rfl) (fun w' hg=>?_) ?_
      ·go_simp;first|done|exact Grew.refl _
      refine headG_run (by kernel_rfl) (fun w' hg=>?_) ?_
      ·go_simp;exact Grew.refl _
      refine headG_run (by kernel_rfl) (fun w' hg=>?_) ?_
      ·go_simp;exact Grew.refl _
      refine headG_run (by kernel_rfl) (fun w' hg=>?_) ?_
      ·refine wp_load_mid 34 (.tmp 4) rfl (w.heap.size) 0 rfl cs1 _ (HB1.out _ (HK2.out.trans hg)) Tryz.underlying34 rfl (by rw[HL.out.1];exact infoX) ?_;exact⟨rfl,Grew.refl _⟩
      refine headG_run (by kernel_rfl) (fun w' hg=>?_) ?_
      ·refine wp_load_mid 34 (.tmp 5) rfl (w.heap.size+1) 0 rfl cs2 _ (HB2.out _ (HK2.out.trans hg)) Tryz.underlying34 rfl (by rw[HL.out.2];exact infoX) ?_;exact⟨rfl,Grew.refl _⟩
      refine headG_run (by kernel_rfl) (fun w' hg=>?_) ?_
      ·go_simp;(with_reducible refine(no1_any HOK.out.1 HOK.out.2 (HT.out _ (HG.out.trans (HK2.out.trans hg))).1 (HT.out _ (HG.out.trans (HK2.out.trans hg))).2 (HE1.out _ (HG.out.trans (HK2.out.trans hg))) (HE2.out _ (HG.out.trans (HK2.out.trans hg))):Calls _ _ _ _ _).mono ?_);rintro e wq ⟨rfl,kq⟩;exact⟨by rw[hr2];try rfl,kq⟩
      refine headG_run (by kernel_rfl) (fun w' hg=>?_) ?_
      ·go_simp;exact Grew.refl _
      exact headG_nil
     case sT=>
      intro w9 hg9;simp only[List.toList_toArray,List.append_eq,List.cons_append,List.nil_append,putAll,Act.put,List.setIfInBounds_toArray,List.set_cons_zero,List.set_cons_succ];have HK3:=Lib.hid (HK2.out.trans hg9);go_wp2_with(first|((with_reducible refine at_load 34 (.tmp 5) rfl ?_);refine wpList_load_mid rfl 34 (.tmp 5) rfl (w.heap.size+1) 0 rfl cs2 _ (HB2.out _ HK3.out) Tryz.underlying34 rfl (by rw[HL.out.2];exact infoX) ?_)|((with_reducible refine at_store 34 (.tmp 6) (.tmp 30) rfl ?_);refine stN 34 (.tmp 6) (.tmp 30) (w.heap.size+1+1) cs2 (numL 0 0) 34 (by rw[HL.out.2];exact infoX) (by rw[HL.out.2];rfl) HO.out.2 rfl rfl rfl rfl (HB3.out.grew HK3.out) ?_;intro w8 hb8 k8 d8)|((with_reducible refine at_store 34 (.tmp 6) (.tmp 31) rfl ?_);refine stN 34 (.tmp 6) (.tmp 31) (w.heap.size+1+1) (numL 0 0) (numL 0 0) 34 infoX rfl (numL_ones _ _) rfl rfl rfl rfl (HB3.out.grew HK3.out) ?_;intro w8 hb8 k8 d8));refine bodyPost_ret (results_ex rfl rfl rfl infoX Tryz.underlying34 rfl hb8) rfl ?_;exact rule_none (by unfold nothingE;simp[hr1,hr2]) (HG.out.trans HK3.out) k8
    refine region_seqG [(.int .i64 0),.bool true,.bool true,.func (.func 87) #[] #[],.agg cs1.toArray,.agg cs2.toArray,.bool true,.bool true] _ (by kernel_rfl) (by kernel_rfl) rfl ?sH ?sT
    case sH=>
     simp only[List.toList_toArray,List.append_eq,List.cons_append,List.nil_append,putAll,Act.put,List.setIfInBounds_toArray,List.set_cons_zero,List.set_cons_succ];refine headG_run (by kernel_rfl) (fun w' hg=>?_) ?_
     ·go_simp;exact Grew.refl _
     refine headG_run (by kernel_rfl) (fun w' hg=>?_) ?_
     ·go_simp;first|done|exact Grew.refl _
     refine headG_run (by kernel_rfl) (fun w' hg=>?_) ?_
     ·go_simp;exact Grew.refl _
     refine headG_run (by kernel_rfl) (fun w' hg=>?_) ?_
     ·go_simp;exact Grew.refl _
     refine headG_run (by kernel_rfl) (fun w' hg=>?_) ?_
     ·refine wp_load_mid 34 (.tmp 4) rfl (w.heap.size) 0 rfl cs1 _ (HB1.out _ (HK2.out.trans hg)) Tryz.underlying34 rfl (by rw[HL.out.1];exact infoX) ?_;exact⟨rfl,Grew.refl _⟩
     refine headG_run (by kernel_rfl) (fun w' hg=>?_) ?_
     ·refine wp_load_mid 34 (.tmp 5) rfl (w.heap.size+1) 0 rfl cs2 _ (HB2.out _ (HK2.out.trans hg)) Tryz.underlying34 rfl (by rw[HL.out.2];exact infoX) ?_;exact⟨rfl,Grew.refl _⟩
     refine headG_run (by kernel_rfl) (fun w' hg=>?_) ?_
     ·go_simp;(with_reducible refine(no1_any HOK.out.1 HOK.out.2 (HT.out _ (HG.out.trans (HK2.out.trans hg))).1 (HT.out _ (HG.out.trans (HK2.out.trans hg))).2 (HE1.out _ (HG.out.trans (HK2.out.trans hg))) (HE2.out _ (HG.out.trans (HK2.out.trans hg))):Calls _ _ _ _ _).mono ?_);rintro e wq ⟨rfl,kq⟩;exact⟨by rw[hr2];try rfl,kq⟩
     refine headG_run (by kernel_rfl) (fun w' hg=>?_) ?_
     ·go_simp;exact Grew.refl _
     exact headG_nil
    case sT=>
     intro w9 hg9;simp only[List.toList_toArray,List.append_eq,List.cons_append,List.nil_append,putAll,Act.put,List.setIfInBounds_toArray,List.set_cons_zero,List.set_cons_succ];have HK3:=Lib.hid (HK2.out.trans hg9);go_wp2_with(first|((with_reducible refine at_load 34 (.tmp 5) rfl ?_);refine wpList_load_mid rfl 34 (.tmp 5) rfl (w.heap.size+1) 0 rfl cs2 _ (HB2.out _ HK3.out) Tryz.underlying34 rfl (by rw[HL.out.2];exact infoX) ?_)|((with_reducible refine at_store 34 (.tmp 6) (.tmp 30) rfl ?_);refine stN 34 (.tmp 6) (.tmp 30) (w.heap.size+1+1) cs2 (numL 0 0) 34 (by rw[HL.out.2];exact infoX) (by rw[HL.out.2];rfl) HO.out.2 rfl rfl rfl rfl (HB3.out.grew HK3.out) ?_;intro w8 hb8 k8 d8)|((with_reducible refine at_store 34 (.tmp 6) (.tmp 31) rfl ?_);refine stN 34 (.tmp 6) (.tmp 31) (w.heap.size+1+1) (numL 0 0) (numL 0 0) 34 infoX rfl (numL_ones _ _) rfl rfl rfl rfl (HB3.out.grew HK3.out) ?_;intro w8 hb8 k8 d8));refine bodyPost_ret (results_ex rfl rfl rfl (by rw[HL.out.2];exact infoX) Tryz.underlying34 rfl hb8) rfl ?_;exact rule_arg (by unfold nothingE;simp[hr1,hr2]) HQ.out (HR2.out _ (Grew.refl _)) (HG.out.trans HK3.out) k8
  refine region_seqG [(.int .i64 0),.bool true,.bool true,undef,undef,.bool true,.bool true,.func (.func 87) #[] #[],.agg cs2.toArray,.agg cs1.toArray,.bool true,.bool true] _ (by kernel_rfl) (by kernel_rfl) rfl ?sH ?sT
  case sH=>
   simp only[List.toList_toArray,List.append_eq,List.cons_append,List.nil_append,putAll,Act.put,List.setIfInBounds_toArray,List.set_cons_zero,List.set_cons_succ];refine headG_run (by kernel_rfl) (fun w' hg=>?_) ?_
   ·go_simp;exact Grew.refl _
   refine headG_run (by kernel_rfl) (fun w' hg=>?_) ?_
   ·go_simp;first|done|exact Grew.refl _
   refine headG_run (by kernel_rfl) (fun w' hg=>?_) ?_
   ·go_simp;exact Grew.refl _
   refine headG_skip (by kernel_rfl) (by kernel_rfl) ?_;refine headG_skip (by kernel_rfl) (by kernel_rfl) ?_;refine headG_run (by kernel_rfl) (fun w' hg=>?_) ?_
   ·go_simp;exact Grew.refl _
   refine headG_run (by kernel_rfl) (fun w' hg=>?_) ?_
   ·go_simp;exact Grew.refl _
   refine headG_run (by kernel_rfl) (fun w' hg=>?_) ?_
   ·go_simp;exact Grew.refl _
   refine headG_run (by kernel_rfl) (fun w' hg=>?_) ?_
   ·refine wp_load_mid 34 (.tmp 5) rfl (w.heap.size+1) 0 rfl cs2 _ (HB2.out _ (HK.out.trans hg)) Tryz.underlying34 rfl (by rw[HL.out.2];exact infoX) ?_;exact⟨rfl,Grew.refl _⟩
   refine headG_run (by kernel_rfl) (fun w' hg=>?_) ?_
   ·refine wp_load_mid 34 (.tmp 4) rfl (w.heap.size) 0 rfl cs1 _ (HB1.out _ (HK.out.trans hg)) Tryz.underlying34 rfl (by rw[HL.out.1];exact infoX) ?_;exact⟨rfl,Grew.refl _⟩
   refine headG_run (by kernel_rfl) (fun w' hg=>?_) ?_
   ·go_simp;(with_reducible refine(no1_any HOK.out.2 HOK.out.1 (HT.out _ (HG.out.trans (HK.out.trans hg))).1 (HT.out _ (HG.out.trans (HK.out.trans hg))).2 (HE2.out _ (HG.out.trans (HK.out.trans hg))) (HE1.out _ (HG.out.trans (HK.out.trans hg))):Calls _ _ _ _ _).mono ?_);rintro e wq ⟨rfl,kq⟩;exact⟨by rw[hr1];try rfl,kq⟩
   refine headG_run (by kernel_rfl) (fun w' hg=>?_) ?_
   ·go_simp;exact Grew.refl _
   exact headG_nil
  case sT=>
   intro w9 hg9;simp only[List.toList_toArray,List.append_eq,List.cons_append,List.nil_append,putAll,Act.put,List.setIfInBounds_toArray,List.set_cons_zero,List.set_cons_succ];have HK3:=Lib.hid (HK.out.trans hg9);go_wp2_with(first|((with_reducible refine at_load 34 (.tmp 4) rfl ?_);refine wpList_load_mid rfl 34 (.tmp 4) rfl (w.heap.size) 0 rfl cs1 _ (HB1.out _ HK3.out) Tryz.underlying34 rfl (by rw[HL.out.1];exact infoX) ?_)|((with_reducible refine at_store 34 (.tmp 6) (.tmp 21) rfl ?_);refine stN 34 (.tmp 6) (.tmp 21) (w.heap.size+1+1) cs1 (numL 0 0) 34 (by rw[HL.out.1];exact infoX) (by rw[HL.out.1];rfl) HO.out.1 rfl rfl rfl rfl (HB3.out.grew HK3.out) ?_;intro w8 hb8 k8 d8));refine bodyPost_ret (results_ex rfl rfl rfl (by rw[HL.out.1];exact infoX) Tryz.underlying34 rfl hb8) rfl ?_;exact rule_arg (by unfold nothingE;simp[hr1,hr2]) HQ.out (HR1.out _ (Grew.refl _)) (HG.out.trans HK3.out) k8
 by_cases f1:f=1
 ·subst f1;obtain⟨r1,hr1⟩:∃q,notE e2 e1=q:=⟨_,rfl⟩;obtain⟨r2,hr2⟩:∃q,notE e1 e2=q:=⟨_,rfl⟩;go_upto_region 2 with fail;rcases r1 with _|_
  ·refine region_seqG [(.int .i64 1),.bool false,.bool false,(.int .i64 1),.bool true,.bool true,.bool true,.func (.func 87) #[] #[],.agg cs2.toArray,.agg cs1.toArray,.bool false,.bool false] _ (by kernel_rfl) (by kernel_rfl) rfl ?sH ?sT
   case sH=>
    simp only[List.toList_toArray,List.append_eq,List.cons_append,List.nil_append,putAll,Act.put,List.setIfInBounds_toArray,List.set_cons_zero,List.set_cons_succ];refine headG_run (by kernel_rfl) (fun w' hg=>?_) ?_
    ·go_simp;exact Grew.refl _
    refine headG_run (by kernel_rfl) (fun w' hg=>?_) ?_
    ·go_simp;first|done|exact Grew.refl _
    refine headG_run (by kernel_rfl) (fun w' hg=>?_) ?_
    ·go_simp;exact Grew.refl _
    refine headG_run (by kernel_rfl) (fun w' hg=>?_) ?_
    ·go_simp;exact Grew.refl _
    refine headG_run (by kernel_rfl) (fun w' hg=>?_) ?_
    ·go_simp;first|done|exact Grew.refl _
    refine headG_run (by kernel_rfl) (fun w' hg=>?_) ?_
    ·go_simp;exact Grew.refl _
    refine headG_run (by kernel_rfl) (fun w' hg=>?_) ?_
    ·go_simp;exact Grew.refl _
    refine headG_run (by kernel_rfl) (fun w' hg=>?_) ?_
    ·go_simp;exact Grew.refl _
    refine headG_run (by kernel_rfl) (fun w' hg=>?_) ?_
    ·refine wp_load_mid 34 (.tmp 5) rfl (w.heap.size+1) 0 rfl cs2 _ (HB2.out _ (HK.out.trans hg)) Tryz.underlying34 rfl (by rw[HL.out.2];exact infoX) ?_;exact⟨rfl,Grew.refl _⟩
    refine headG_run (by kernel_rfl) (fun w' hg=>?_) ?_
    ·refine wp_load_mid 34 (.tmp 4) rfl (w.heap.size) 0 rfl cs1 _ (HB1.out _ (HK.out.trans hg)) Tryz.underlying34 rfl (by rw[HL.out.1];exact infoX) ?_;exact⟨rfl,Grew.refl _⟩
    refine headG_run (by kernel_rfl) (fun w' hg=>?_) ?_
    ·go_simp;(with_reducible refine(no1_any HOK.out.2 HOK.out.1 (HT.out _ (HG.out.trans (HK.out.trans hg))).1 (HT.out _ (HG.out.trans (HK.out.trans hg))).2 (HE2.out _ (HG.out.trans (HK.out.trans hg))) (HE1.out _ (HG.out.trans (HK.out.trans hg))):Calls _ _ _ _ _).mono ?_);rintro e wq ⟨rfl,kq⟩;exact⟨by rw[hr1];try rfl,kq⟩
    refine headG_run (by kernel_rfl) (fun w' hg=>?_) ?_
    ·go_simp;exact Grew.refl _
    exact headG_nil
   case sT=>
    intro w9 hg9;simp only[List.toList_toArray,List.append_eq,List.cons_append,List.nil_append,putAll,Act.put,List.setIfInBounds_toArray,List.set_cons_zero,List.set_cons_succ];have HK2:=Lib.hid (HK.out.trans hg9);clear hg9;go_upto_region 4 with fail;refine region_seqG [(.int .i64 1),.bool false,.bool false,undef,undef,undef,undef,.bool false] _ (by kernel_rfl) (by kernel_rfl) rfl ?sH ?sT
    case sH=>
     simp only[List.toList_toArray,List.append_eq,List.cons_append,List.nil_append,putAll,Act.put,List.setIfInBounds_toArray,List.set_cons_zero,List.set_cons_succ];refine headG_run (by kernel_rfl) (fun w' hg=>?_) ?_
     ·go_simp;exact Grew.refl _
     refine headG_run (by kernel_rfl) (fun w' hg=>?_) ?_
     ·go_simp;first|done|exact Grew.refl _
     refine headG_run (by kernel_rfl) (fun w' hg=>?_) ?_
     ·go_simp;exact Grew.refl _
     refine headG_skip (by kernel_rfl) (by kernel_rfl) ?_;refine headG_skip (by kernel_rfl) (by kernel_rfl) ?_;refine headG_skip (by kernel_rfl) (by kernel_rfl) ?_;refine headG_skip (by kernel_rfl) (by kernel_rfl) ?_;refine headG_run (by kernel_rfl) (fun w' hg=>?_) ?_
     ·go_simp;exact Grew.refl _
     exact headG_nil
    case sT=>
     intro w9 hg9;simp only[List.toList_toArray,List.append_eq,List.cons_append,List.nil_append,putAll,Act.put,List.setIfInBounds_toArray,List.set_cons_zero,List.set_cons_succ];have HK3:=Lib.hid (HK2.out.trans hg9);go_wp2_with(first|((with_reducible refine at_load 34 (.tmp 5) rfl ?_);refine wpList_load_mid rfl 34 (.tmp 5) rfl (w.heap.size+1) 0 rfl cs2 _ (HB2.out _ HK3.out) Tryz.underlying34 rfl (by rw[HL.out.2];exact infoX) ?_)|((with_reducible refine at_store 34 (.tmp 6) (.tmp 30) rfl ?_);refine stN 34 (.tmp 6) (.tmp 30) (w.heap.size+1+1) cs2 (numL 0 0) 34 (by rw[HL.out.2];exact infoX) (by rw[HL.out.2];rfl) HO.out.2 rfl rfl rfl rfl (HB3.out.grew HK3.out) ?_;intro w8 hb8 k8 d8)|((with_reducible refine at_store 34 (.tmp 6) (.tmp 31) rfl ?_);refine stN 34 (.tmp 6) (.tmp 31) (w.heap.size+1+1) (numL 0 0) (numL 0 0) 34 infoX rfl (numL_ones _ _) rfl rfl rfl rfl (HB3.out.grew HK3.out) ?_;intro w8 hb8 k8 d8));refine bodyPost_ret (results_ex rfl rfl rfl infoX Tryz.underlying34 rfl hb8) rfl ?_;exact rule_none (by unfold nothingE;simp[hr1,hr2]) (HG.out.trans HK3.out) k8
  refine region_seqG [(.int .i64 1),.bool false,.bool false,(.int .i64 1),.bool true,.bool true,.bool true,.func (.func 87) #[] #[],.agg cs2.toArray,.agg cs1.toArray,.bool true,.bool true] _ (by kernel_rfl) (by kernel_rfl) rfl ?sH ?sT
  case sH=>
   simp only[List.toList_toArray,List.append_eq,List.cons_append,List.nil_append,putAll,Act.put,List.setIfInBounds_toArray,List.set_cons_zero,List.set_cons_succ];refine headG_run (by kernel_rfl) (fun w' hg=>?_) ?_
   ·go_simp;exact Grew.refl _
   refine headG_run (by kernel_rfl) (fun w' hg=>?_) ?_
   ·go_simp;first|done|exact Grew.refl _
   refine headG_run (by kernel_rfl) (fun w' hg=>?_) ?_
   ·go_simp;exact Grew.refl _
   refine headG_run (by kernel_rfl) (fun w' hg=>?_) ?_
   ·go_simp;exact Grew.refl _
   refine headG_run (by kernel_rfl) (fun w' hg=>?_) ?_
   ·go_simp;first|done|exact Grew.refl _
   refine headG_run (by kernel_rfl) (fun w' hg=>?_) ?_
   ·go_simp;exact Grew.refl _
   refine headG_run (by kernel_rfl) (fun w' hg=>?_) ?_
   ·go_simp;exact Grew.refl _
   refine headG_run (by kernel_rfl) (fun w' hg=>?_) ?_
   ·go_simp;exact Grew.refl _
   refine headG_run (by kernel_rfl) (fun w' hg=>?_) ?_
   ·refine wp_load_mid 34 (.tmp 5) rfl (w.heap.size+1) 0 rfl cs2 _ (HB2.out _ (HK.out.trans hg)) Tryz.underlying34 rfl (by rw[HL.out.2];exact infoX) ?_;exact⟨rfl,Grew.refl _⟩
   refine headG_run (by kernel_rfl) (fun w' hg=>?_) ?_
   ·refine wp_load_mid 34 (.tmp 4) rfl (w.heap.size) 0 rfl cs1 _ (HB1.out _ (HK.out.trans hg)) Tryz.underlying34 rfl (by rw[HL.out.1];exact infoX) ?_;exact⟨rfl,Grew.refl _⟩
   refine headG_run (by kernel_rfl) (fun w' hg=>?_) ?_
   ·go_simp;(with_reducible refine(no1_any HOK.out.2 HOK.out.1 (HT.out _ (HG.out.trans (HK.out.trans hg))).1 (HT.out _ (HG.out.trans (HK.out.trans hg))).2 (HE2.out _ (HG.out.trans (HK.out.trans hg))) (HE1.out _ (HG.out.trans (HK.out.trans hg))):Calls _ _ _ _ _).mono ?_);rintro e wq ⟨rfl,kq⟩;exact⟨by rw[hr1];try rfl,kq⟩
   refine headG_run (by kernel_rfl) (fun w' hg=>?_) ?_
   ·go_simp;exact Grew.refl _
   exact headG_nil
  case sT=>
   intro w9 hg9;simp only[List.toList_toArray,List.append_eq,List.cons_append,List.nil_append,putAll,Act.put,List.setIfInBounds_toArray,List.set_cons_zero,List.set_cons_succ];have HK3:=Lib.hid (HK.out.trans hg9);go_wp2_with(first|((with_reducible refine at_load 34 (.tmp 4) rfl ?_);refine wpList_load_mid rfl 34 (.tmp 4) rfl (w.heap.size) 0 rfl cs1 _ (HB1.out _ HK3.out) Tryz.underlying34 rfl (by rw[HL.out.1];exact infoX) ?_)|((with_reducible refine at_store 34 (.tmp 6) (.tmp 21) rfl ?_);refine stN 34 (.tmp 6) (.tmp 21) (w.heap.size+1+1) cs1 (numL 0 0) 34 (by rw[HL.out.1];exact infoX) (by rw[HL.out.1];rfl) HO.out.1 rfl rfl rfl rfl (HB3.out.grew HK3.out) ?_;intro w8 hb8 k8 d8));refine bodyPost_ret (results_ex rfl rfl rfl (by rw[HL.out.1];exact infoX) Tryz.underlying34 rfl hb8) rfl ?_;exact rule_arg (by unfold nothingE;simp[hr1,hr2]) HQ.out (HR1.out _ (Grew.refl _)) (HG.out.trans HK3.out) k8
 have HF:=Lib.hid (And.intro f0 f1);have t0:(f==0)=false:=by rw[beq_eq_false_iff_ne];exact f0
 clear f0 f1;obtain⟨r1,hr1⟩:∃q,notE e2 e1=q:=⟨_,rfl⟩;obtain⟨r2,hr2⟩:∃q,notE e1 e2=q:=⟨_,rfl⟩;go_upto_region 2 with fail;refine region_seqG [(.int .i64 f),.bool false,.bool false,(.int .i64 f),.bool false,.bool false,.bool false,undef,undef,undef,undef,.bool false] _ (by kernel_rfl) (by kernel_rfl) rfl ?sH ?sT
 case sH=>
  simp only[List.toList_toArray,List.append_eq,List.cons_append,List.nil_append,putAll,Act.put,List.setIfInBounds_toArray,List.set_cons_zero,List.set_cons_succ];refine headG_run (by kernel_rfl) (fun w' hg=>?_) ?_
  ·go_simp;exact Grew.refl _
  refine headG_run (by kernel_rfl) (fun w' hg=>?_) ?_
  ·go_simp;first|done|exact Grew.refl _|exact⟨HF.out.1,Grew.refl _⟩|exact⟨HF.out.2,Grew.refl _⟩
  refine headG_run (by kernel_rfl) (fun w' hg=>?_) ?_
  ·go_simp;exact Grew.refl _
  refine headG_run (by kernel_rfl) (fun w' hg=>?_) ?_
  ·go_simp;exact Grew.refl _
  refine headG_run (by kernel_rfl) (fun w' hg=>?_) ?_
  ·go_simp;first|done|exact Grew.refl _|exact⟨HF.out.1,Grew.refl _⟩|exact⟨HF.out.2,Grew.refl _⟩
  refine headG_run (by kernel_rfl) (fun w' hg=>?_) ?_
  ·go_simp;exact Grew.refl _
  refine headG_run (by kernel_rfl) (fun w' hg=>?_) ?_
  ·go_simp;exact Grew.refl _
  refine headG_skip (by kernel_rfl) (by kernel_rfl) ?_;refine headG_skip (by kernel_rfl) (by kernel_rfl) ?_;refine headG_skip (by kernel_rfl) (by kernel_rfl) ?_;refine headG_skip (by kernel_rfl) (by kernel_rfl) ?_;refine headG_run (by kernel_rfl) (fun w' hg=>?_) ?_
  ·go_simp;exact Grew.refl _
  exact headG_nil
 case sT=>
  intro w9 hg9;simp only[List.toList_toArray,List.append_eq,List.cons_append,List.nil_append,putAll,Act.put,List.setIfInBounds_toArray,List.set_cons_zero,List.set_cons_succ];have HK2:=Lib.hid (HK.out.trans hg9);clear hg9;go_upto_region 4 with fail;refine region_seqG [(.int .i64 f),.bool false,.bool false,undef,undef,undef,undef,.bool false] _ (by kernel_rfl) (by kernel_rfl) rfl ?sH ?sT
  case sH=>
   simp only[List.toList_toArray,List.append_eq,List.cons_append,List.nil_append,putAll,Act.put,List.setIfInBounds_toArray,List.set_cons_zero,List.set_cons_succ];refine headG_run (by kernel_rfl) (fun w' hg=>?_) ?_
   ·go_simp;exact Grew.refl _
   refine headG_run (by kernel_rfl) (fun w' hg=>?_) ?_
   ·go_simp;first|done|exact Grew.refl _|exact⟨HF.out.1,Grew.refl _⟩|exact⟨HF.out.2,Grew.refl _⟩
   refine headG_run (by kernel_rfl) (fun w' hg=>?_) ?_
   ·go_simp;exact Grew.refl _
   refine headG_skip (by kernel_rfl) (by kernel_rfl) ?_;refine headG_skip (by kernel_rfl) (by kernel_rfl) ?_;refine headG_skip (by kernel_rfl) (by kernel_rfl) ?_;refine headG_skip (by kernel_rfl) (by kernel_rfl) ?_;refine headG_run (by kernel_rfl) (fun w' hg=>?_) ?_
   ·go_simp;exact Grew.refl _
   exact headG_nil
  case sT=>
   intro w9 hg9;simp only[List.toList_toArray,List.append_eq,List.cons_append,List.nil_append,putAll,Act.put,List.setIfInBounds_toArray,List.set_cons_zero,List.set_cons_succ];have HK3:=Lib.hid (HK2.out.trans hg9);go_wp2_with(first|((with_reducible refine at_load 34 (.tmp 5) rfl ?_);refine wpList_load_mid rfl 34 (.tmp 5) rfl (w.heap.size+1) 0 rfl cs2 _ (HB2.out _ HK3.out) Tryz.underlying34 rfl (by rw[HL.out.2];exact infoX) ?_)|((with_reducible refine at_store 34 (.tmp 6) (.tmp 30) rfl ?_);refine stN 34 (.tmp 6) (.tmp 30) (w.heap.size+1+1) cs2 (numL 0 0) 34 (by rw[HL.out.2];exact infoX) (by rw[HL.out.2];rfl) HO.out.2 rfl rfl rfl rfl (HB3.out.grew HK3.out) ?_;intro w8 hb8 k8 d8)|((with_reducible refine at_store 34 (.tmp 6) (.tmp 31) rfl ?_);refine stN 34 (.tmp 6) (.tmp 31) (w.heap.size+1+1) (numL 0 0) (numL 0 0) 34 infoX rfl (numL_ones _ _) rfl rfl rfl rfl (HB3.out.grew HK3.out) ?_;intro w8 hb8 k8 d8));refine bodyPost_ret (results_ex rfl rfl rfl infoX Tryz.underlying34 rfl hb8) rfl ?_;exact rule_none (by unfold nothingE;simp[HF.out.1,HF.out.2,hr1,hr2]) (HG.out.trans HK3.out) k8
def vanishE (f:Int) (e1 e2:Ex):Option Ex:=if f=1∧eqE e1 e2=true∧rowE e1=false then some (binE 2 e1 (numE 0 1))else none
theorem vanish_any {f:Int} {e1 e2:Ex} (h1:RwOk e1) (h2:RwOk e2) {Q:Nat→Prop} {w:World} {cs1 cs2:List Value} (hwt:WTab w) (hot:OTab w) (hq:∀b,Q b→b<w.heap.size) (hr1:RdEQ w Q e1 cs1) (hr2:RdEQ w Q e2 cs2):
  Calls Tryz.prog 59 #[.int .i64 f,.agg cs1.toArray,.agg cs2.toArray] w (RulePost (vanishE f e1 e2) Q w):=by
 have HQ:=Lib.hid hq;have HR1:=Lib.hid (fun w' (g:Grew w w')=>hr1.grewQ hq g);have HR2:=Lib.hid (fun w' (g:Grew w w')=>hr2.grewQ hq g);have HE1:=Lib.hid (fun w' (g:Grew w w')=>RdEQ.toB (fun b hb=>Nat.lt_of_lt_of_le (hq b hb) g.size) _ _ (hr1.grewQ hq g));have HE2:=Lib.hid (fun w' (g:Grew w w')=>RdEQ.toB (fun b hb=>Nat.lt_of_lt_of_le (hq b hb) g.size) _ _ (hr2.grewQ hq g));have HL:=Lib.hid (And.intro hr1.len hr2.len);have HO:=Lib.hid (And.intro (hr1.one_ hq) (hr2.one_ hq));have HT:=Lib.hid (fun w' (g:Grew w w')=>And.intro (hwt.grew g) (hot.keep g (fun h=>h)));have HOK:=Lib.hid (And.intro h1 h2);obtain⟨hb1,hb2,hb3,hG⟩:=boxes3 w 34 34 34 cs1.toArray cs2.toArray (numL 0 0).toArray;clear hq hr1 hr2 h1 h2 hwt hot;go_enter Tryz.func59,Tryz.ntmps59;go_upto_region 1 with fail;change Code.wp _ _ _ _ (((w.alloc (.cells cs1.toArray 34)).alloc (.cells cs2.toArray 34)).alloc (.cells (numL 0 0).toArray 34));generalize ((w.alloc (.cells cs1.toArray 34)).alloc (.cells cs2.toArray 34)).alloc (.cells (numL 0 0).toArray 34)=w1 at*;have HB1:=Lib.hid (show ∀w',Grew w1 w'→w'.rangeAt w.heap.size 0 cs1 from fun w' g=>(hb1.grew g).rangeN 0 _ (by simp));have HB2:=Lib.hid (show ∀w',Grew w1 w'→w'.rangeAt (w.heap.size+1) 0 cs2 from fun w' g=>(hb2.grew g).rangeN 0 _ (by simp));have HB3:=Lib.hid hb3;have HG:=Lib.hid hG;have HK:=Lib.hid (Grew.refl w1);clear hb1 hb2 hb3 hG;have HS:=Lib.hid (show w.heap.size+3≤w1.heap.size from HB3.out.lt);obtain⟨va1,va2,va3,hca, -⟩:=(HR1.out _ (Grew.refl _)).open_;have HC1:=Lib.hid hca;clear hca;obtain⟨q,hq⟩:∃q,eqE e1 e2=q:=⟨_,rfl⟩;obtain⟨r,hr⟩:∃q,rowE e1=q:=⟨_,rfl⟩;by_cases f1:f=1
 ·subst f1;rcases q with _|_
  ·refine region_seqG [(.int .i64 1),.bool false,.bool false,.agg cs1.toArray,.agg cs2.toArray,.bool false,.bool true,.bool true,.bool true,undef,undef,.bool true] _ (by kernel_rfl) (by kernel_rfl) rfl ?sH ?sT
   case sH=>
    simp only[List.toList_toArray,List.append_eq,List.cons_append,List.nil_append,putAll,Act.put,List.setIfInBounds_toArray,List.set_cons_zero,List.set_cons_succ];refine headG_run (by kernel_rfl) (fun w' hg=>?_) ?_
    ·go_simp;exact Grew.refl _
    refine headG_run (by kernel_rfl) (fun w' hg=>?_) ?_
    ·go_simp;first|done|exact Grew.refl _|exact⟨HF.out,Grew.refl _⟩
    refine headG_run (by kernel_rfl) (fun w' hg=>?_) ?_
    ·go_simp;exact Grew.refl _
    refine headG_run (by kernel_rfl) (fun w' hg=>?_) ?_
    ·refine wp_load_mid 34 (.tmp 4) rfl (w.heap.size) 0 rfl cs1 _ (HB1.out _ (HK.out.trans hg)) Tryz.underlying34 rfl (by rw[HL.out.1];exact infoX) ?_;exact⟨rfl,Grew.refl _⟩
    refine headG_run (by kernel_rfl) (fun w' hg=>?_) ?_
    ·refine wp_load_mid 34 (.tmp 5) rfl (w.heap.size+1) 0 rfl cs2 _ (HB2.out _ (HK.out.trans hg)) Tryz.underlying34 rfl (by rw[HL.out.2];exact infoX) ?_;exact⟨rfl,Grew.refl _⟩
    refine headG_run (by kernel_rfl) (fun w' hg=>?_) ?_
    ·go_simp;(with_reducible refine(RwEqual HOK.out.1 HOK.out.2 (HE1.out _ (HG.out.trans (HK.out.trans hg))) (HE2.out _ (HG.out.trans (HK.out.trans hg))):Calls _ _ _ _ _).mono ?_);rintro e wq ⟨rfl,kq⟩;exact⟨by rw[hq];try rfl,kq⟩
    refine headG_run (by kernel_rfl) (fun w' hg=>?_) ?_
    ·go_simp;exact Grew.refl _
    refine headG_run (by kernel_rfl) (fun w' hg=>?_) ?_
    ·go_simp;exact Grew.refl _
    refine headG_run (by kernel_rfl) (fun w' hg=>?_) ?_
    ·go_simp;exact Grew.refl _
    refine headG_skip (by kernel_rfl) (by kernel_rfl) ?_;refine headG_skip (by kernel_rfl) (by kernel_rfl) ?_;refine headG_run (by kernel_rfl) (fun w' hg=>?_) ?_
    ·go_simp;exact Grew.refl _
    exact headG_nil
   case sT=>
    intro w9 hg9;simp only[List.toList_toArray,List.append_eq,List.cons_append,List.nil_append,putAll,Act.put,List.setIfInBounds_toArray,List.set_cons_zero,List.set_cons_succ];have HK3:=Lib.hid (HK.out.trans hg9);go_wp2_with(((with_reducible refine at_store 34 (.tmp 6) (.tmp 21) rfl ?_);refine stN 34 (.tmp 6) (.tmp 21) (w.heap.size+1+1) (numL 0 0) (numL 0 0) 34 infoX rfl (numL_ones _ _) rfl rfl rfl rfl (HB3.out.grew HK3.out) ?_;intro w8 hb8 k8 d8));refine bodyPost_ret (results_ex rfl rfl rfl infoX Tryz.underlying34 rfl hb8) rfl ?_;exact rule_none (by unfold vanishE;simp[hq,hr]) (HG.out.trans HK3.out) k8
  rcases r with _|_
  ·refine region_seqG [(.int .i64 1),.bool false,.bool false,.agg cs1.toArray,.agg cs2.toArray,.bool true,.bool false,.bool false,.bool false,.agg cs1.toArray,.bool false,.bool false] _ (by kernel_rfl) (by kernel_rfl) rfl ?sH ?sT
   case sH=>
    simp only[List.toList_toArray,List.append_eq,List.cons_append,List.nil_append,putAll,Act.put,List.setIfInBounds_toArray,List.set_cons_zero,List.set_cons_succ];refine headG_run (by kernel_rfl) (fun w' hg=>?_) ?_
    ·go_simp;exact Grew.refl _
    refine headG_run (by kernel_rfl) (fun w' hg=>?_) ?_
    ·go_simp;first|done|exact Grew.refl _|exact⟨HF.out,Grew.refl _⟩
    refine headG_run (by kernel_rfl) (fun w' hg=>?_) ?_
    ·go_simp;exact Grew.refl _
    refine headG_run (by kernel_rfl) (fun w' hg=>?_) ?_
    ·refine wp_load_mid 34 (.tmp 4) rfl (w.heap.size) 0 rfl cs1 _ (HB1.out _ (HK.out.trans hg)) Tryz.underlying34 rfl (by rw[HL.out.1];exact infoX) ?_;exact⟨rfl,Grew.refl _⟩
    refine headG_run (by kernel_rfl) (fun w' hg=>?_) ?_
    ·refine wp_load_mid 34 (.tmp 5) rfl (w.heap.size+1) 0 rfl cs2 _ (HB2.out _ (HK.out.trans hg)) Tryz.underlying34 rfl (by rw[HL.out.2];exact infoX) ?_;exact⟨rfl,Grew.refl _⟩
    refine headG_run (by kernel_rfl) (fun w' hg=>?_) ?_
    ·go_simp;(with_reducible refine(RwEqual HOK.out.1 HOK.out.2 (HE1.out _ (HG.out.trans (HK.out.trans hg))) (HE2.out _ (HG.out.trans (HK.out.trans hg))):Calls _ _ _ _ _).mono ?_);rintro e wq ⟨rfl,kq⟩;exact⟨by rw[hq];try rfl,kq⟩
    refine headG_run (by kernel_rfl) (fun w' hg=>?_) ?_
    ·go_simp;exact Grew.refl _
    refine headG_run (by kernel_rfl) (fun w' hg=>?_) ?_
    ·go_simp;exact Grew.refl _
    refine headG_run (by kernel_rfl) (fun w' hg=>?_) ?_
    ·go_simp;exact Grew.refl _
    refine headG_run (by kernel_rfl) (fun w' hg=>?_) ?_
    ·refine wp_load_mid 34 (.tmp 4) rfl (w.heap.size) 0 rfl cs1 _ (HB1.out _ (HK.out.trans hg)) Tryz.underlying34 rfl (by rw[HL.out.1];exact infoX) ?_;exact⟨rfl,Grew.refl _⟩
    refine headG_run (by kernel_rfl) (fun w' hg=>?_) ?_
    ·go_simp;(with_reducible refine(RwRow HOK.out.1 (HE1.out _ (HG.out.trans (HK.out.trans hg))):Calls _ _ _ _ _).mono ?_);rintro e wq ⟨rfl,kq⟩;exact⟨by rw[hr];try rfl,kq⟩
    refine headG_run (by kernel_rfl) (fun w' hg=>?_) ?_
    ·go_simp;exact Grew.refl _
    exact headG_nil
   case sT=>
    intro w9 hg9;simp only[List.toList_toArray,List.append_eq,List.cons_append,List.nil_append,putAll,Act.put,List.setIfInBounds_toArray,List.set_cons_zero,List.set_cons_succ];have HK3:=Lib.hid (HK.out.trans hg9);go_wp2_with(first|((with_reducible refine at_store 34 (.tmp 8) (.tmp 23) rfl ?_);refine stN 34 (.tmp 8) (.tmp 23) (w9.heap.size) (numL 0 1) (numL 0 0) 34 infoX rfl (numL_ones _ _) rfl rfl rfl rfl (Box.new w9 34 _) ?_;intro w6 hb6 k6 d6;have HK4:=Lib.hid (HK3.out.trans (Keeps.then_ ((Grew.refl w9).alloc (.cells (numL 0 0).toArray 34)) k6 (fun i hi e=>by omega)));clear k6 d6)|((with_reducible refine at_load 34 (.tmp 4) rfl ?_);refine wpList_load_mid rfl 34 (.tmp 4) rfl (w.heap.size) 0 rfl cs1 _ (HB1.out _ HK4.out) Tryz.underlying34 rfl (by rw[HL.out.1];exact infoX) ?_)|((with_reducible refine at_load 34 (.tmp 8) rfl ?_);refine ldN 34 Tryz.underlying34 rfl (.tmp 8) (w9.heap.size) (numL 0 1) 34 infoX rfl rfl rfl hb6 ?_)|((with_reducible refine at_build 32 2 #[(0,.tmp 24),(1,.tmp 25)] rfl ?_);refine build_two (ea:=e1) (eb:=numE 0 1) rfl (.tmp 24) (.tmp 25) rfl (by rw[←HC1.out];rfl) (by rfl) ?_;intro w7 hbk g7;have HBK:=Lib.hid hbk;have HG7:=Lib.hid g7;clear hbk g7)|((with_reducible refine at_store 34 (.tmp 6) (.tmp 27) rfl ?_);refine stN 34 (.tmp 6) (.tmp 27) (w.heap.size+1+1) (bin2 2 w6.heap.size) (numL 0 0) 34 infoX rfl (bin2_ones _ _) rfl rfl rfl rfl (HB3.out.grew (HK4.out.trans HG7.out)) ?_;intro w8 hb8 k8 d8));refine bodyPost_ret (results_ex rfl rfl rfl infoX Tryz.underlying34 rfl hb8) rfl ?_;have g8:Grew w w8:=Keeps.then_ (HG.out.trans (HK4.out.trans HG7.out)) k8 fun i hi e=>by omega
    have hz:=(HG.out.trans HK4.out).size;have hz1:=HS.out;have hz4:=HK4.out.size;have hbk:=HBK.out;rw[←HC1.out]at hbk;have hlt:=hbk.lt;have hz8:=k8.size;rw[show vanishE 1 e1 e2=some (binE 2 e1 (numE 0 1))from by unfold vanishE;simp[hq,hr]];refine⟨bin2 2 w6.heap.size,rfl,?_,g8⟩;refine bin_read ?_ ?_ (.inr ⟨hz,by omega⟩) (hbk.keep k8 (by omega)) HL.out.1 rfl
    ·exact RdEQ.keep (S:=fun _=>False) (fun b hb=>⟨HQ.out b hb,fun h=>h,.inl hb⟩) g8 _ _ (HR1.out _ (Grew.refl _))
    exact RdEQ.mk_ (e:=numE 0 1) (RdRQ.nil _ _ _) (RdRQ.nil _ _ _) (RdTQ.nil _ _)
  refine region_seqG [(.int .i64 1),.bool false,.bool false,.agg cs1.toArray,.agg cs2.toArray,.bool true,.bool false,.bool false,.bool false,.agg cs1.toArray,.bool true,.bool true] _ (by kernel_rfl) (by kernel_rfl) rfl ?sH ?sT
  case sH=>
   simp only[List.toList_toArray,List.append_eq,List.cons_append,List.nil_append,putAll,Act.put,List.setIfInBounds_toArray,List.set_cons_zero,List.set_cons_succ];refine headG_run (by kernel_rfl) (fun w' hg=>?_) ?_
   ·go_simp;exact Grew.refl _
   refine headG_run (by kernel_rfl) (fun w' hg=>?_) ?_
   ·go_simp;first|done|exact Grew.refl _|exact⟨HF.out,Grew.refl _⟩
   refine headG_run (by kernel_rfl) (fun w' hg=>?_) ?_
   ·go_simp;exact Grew.refl _
   refine headG_run (by kernel_rfl) (fun w' hg=>?_) ?_
   ·refine wp_load_mid 34 (.tmp 4) rfl (w.heap.size) 0 rfl cs1 _ (HB1.out _ (HK.out.trans hg)) Tryz.underlying34 rfl (by rw[HL.out.1];exact infoX) ?_;exact⟨rfl,Grew.refl _⟩
   refine headG_run (by kernel_rfl) (fun w' hg=>?_) ?_
   ·refine wp_load_mid 34 (.tmp 5) rfl (w.heap.size+1) 0 rfl cs2 _ (HB2.out _ (HK.out.trans hg)) Tryz.underlying34 rfl (by rw[HL.out.2];exact infoX) ?_;exact⟨rfl,Grew.refl _⟩
   refine headG_run (by kernel_rfl) (fun w' hg=>?_) ?_
   ·go_simp;(with_reducible refine(RwEqual HOK.out.1 HOK.out.2 (HE1.out _ (HG.out.trans (HK.out.trans hg))) (HE2.out _ (HG.out.trans (HK.out.trans hg))):Calls _ _ _ _ _).mono ?_);rintro e wq ⟨rfl,kq⟩;exact⟨by rw[hq];try rfl,kq⟩
   refine headG_run (by kernel_rfl) (fun w' hg=>?_) ?_
   ·go_simp;exact Grew.refl _
   refine headG_run (by kernel_rfl) (fun w' hg=>?_) ?_
   ·go_simp;exact Grew.refl _
   refine headG_run (by kernel_rfl) (fun w' hg=>?_) ?_
   ·go_simp;exact Grew.refl _
   refine headG_run (by kernel_rfl) (fun w' hg=>?_) ?_
   ·refine wp_load_mid 34 (.tmp 4) rfl (w.heap.size) 0 rfl cs1 _ (HB1.out _ (HK.out.trans hg)) Tryz.underlying34 rfl (by rw[HL.out.1];exact infoX) ?_;exact⟨rfl,Grew.refl _⟩
   refine headG_run (by kernel_rfl) (fun w' hg=>?_) ?_
   ·go_simp;(with_reducible refine(RwRow HOK.out.1 (HE1.out _ (HG.out.trans (HK.out.trans hg))):Calls _ _ _ _ _).mono ?_);rintro e wq ⟨rfl,kq⟩;exact⟨by rw[hr];try rfl,kq⟩
   refine headG_run (by kernel_rfl) (fun w' hg=>?_) ?_
   ·go_simp;exact Grew.refl _
   exact headG_nil
  case sT=>
   intro w9 hg9;simp only[List.toList_toArray,List.append_eq,List.cons_append,List.nil_append,putAll,Act.put,List.setIfInBounds_toArray,List.set_cons_zero,List.set_cons_succ];have HK3:=Lib.hid (HK.out.trans hg9);go_wp2_with(((with_reducible refine at_store 34 (.tmp 6) (.tmp 21) rfl ?_);refine stN 34 (.tmp 6) (.tmp 21) (w.heap.size+1+1) (numL 0 0) (numL 0 0) 34 infoX rfl (numL_ones _ _) rfl rfl rfl rfl (HB3.out.grew HK3.out) ?_;intro w8 hb8 k8 d8));refine bodyPost_ret (results_ex rfl rfl rfl infoX Tryz.underlying34 rfl hb8) rfl ?_;exact rule_none (by unfold vanishE;simp[hq,hr]) (HG.out.trans HK3.out) k8
 have HF:=Lib.hid f1;clear f1;refine region_seqG [(.int .i64 f),.bool true,.bool true,undef,undef,undef,undef,.bool true,.bool true,undef,undef,.bool true] _ (by kernel_rfl) (by kernel_rfl) rfl ?sH ?sT
 case sH=>
  simp only[List.toList_toArray,List.append_eq,List.cons_append,List.nil_append,putAll,Act.put,List.setIfInBounds_toArray,List.set_cons_zero,List.set_cons_succ];refine headG_run (by kernel_rfl) (fun w' hg=>?_) ?_
  ·go_simp;exact Grew.refl _
  refine headG_run (by kernel_rfl) (fun w' hg=>?_) ?_
  ·go_simp;first|done|exact Grew.refl _|exact⟨HF.out,Grew.refl _⟩
  refine headG_run (by kernel_rfl) (fun w' hg=>?_) ?_
  ·go_simp;exact Grew.refl _
  refine headG_skip (by kernel_rfl) (by kernel_rfl) ?_;refine headG_skip (by kernel_rfl) (by kernel_rfl) ?_;refine headG_skip (by kernel_rfl) (by kernel_rfl) ?_;refine headG_skip (by kernel_rfl) (by kernel_rfl) ?_;refine headG_run (by kernel_rfl) (fun w' hg=>?_) ?_
  ·go_simp;exact Grew.refl _
  refine headG_run (by kernel_rfl) (fun w' hg=>?_) ?_
  ·go_simp;exact Grew.refl _
  refine headG_skip (by kernel_rfl) (by kernel_rfl) ?_;refine headG_skip (by kernel_rfl) (by kernel_rfl) ?_;refine headG_run (by kernel_rfl) (fun w' hg=>?_) ?_
  ·go_simp;exact Grew.refl _
  exact headG_nil
 case sT=>
  intro w9 hg9;simp only[List.toList_toArray,List.append_eq,List.cons_append,List.nil_append,putAll,Act.put,List.setIfInBounds_toArray,List.set_cons_zero,List.set_cons_succ];have HK3:=Lib.hid (HK.out.trans hg9);go_wp2_with(((with_reducible refine at_store 34 (.tmp 6) (.tmp 21) rfl ?_);refine stN 34 (.tmp 6) (.tmp 21) (w.heap.size+1+1) (numL 0 0) (numL 0 0) 34 infoX rfl (numL_ones _ _) rfl rfl rfl rfl (HB3.out.grew HK3.out) ?_;intro w8 hb8 k8 d8));refine bodyPost_ret (results_ex rfl rfl rfl infoX Tryz.underlying34 rfl hb8) rfl ?_;exact rule_none (by unfold vanishE;simp[HF.out,hq,hr]) (HG.out.trans HK3.out) k8
end Go.Proofs.YtcimmbhdcebehaaGreatDoor
