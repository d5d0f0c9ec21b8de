/- package rewrite: the rules neutral, nothing, vanish. -/
import Derived.Test.YtcimmbhdcebehaaGreatDoorRewriteNumbersP01
import Derived.Test.YtcimmbhdcebehaaGreatDoorRewriteNumbersP29
import Derived.Test.YtcimmbhdcebehaaGreatDoorRewriteNumbersP20
set_option maxRecDepth 100000
set_option maxHeartbeats 12800000
set_option linter.unusedVariables false
set_option linter.unusedSimpArgs false
namespace Go.Proofs.YtcimmbhdcebehaaGreatDoor
open Go.RowKit Pl
def RulePost (r:Option Ex) (Q:Nat→Prop) (w:World) (e':Ending) (w':World):Prop:=∃cs,e'= .returned (.tuple #[.agg cs.toArray,.bool r.isSome])∧RdEQ w' (fun b=>Q b∨(w.heap.size≤b∧b<w'.heap.size)) (r.getD zE) cs∧Grew w w'
theorem rule_arg {r:Option Ex} {e:Ex} (hr:r=some e) {Q:Nat→Prop} {w w7 w8:World} {cs:List Value} (hq:∀b,Q b→b<w.heap.size) (h:RdEQ w Q e cs) (g:Grew w w7) (k:Keeps (fun i=>i=w.heap.size+1+1) w7 w8):
  RulePost r Q w (.returned (.tuple #[.agg cs.toArray,.bool true])) w8:=by
 subst hr;have g8:Grew w w8:=Keeps.then_ g k fun i hi e=>by omega
 exact⟨cs,rfl,RdEQ.keep (S:=fun _=>False) (fun b hb=>⟨hq b hb,fun h=>h,.inl hb⟩) g8 _ _ h,g8⟩
theorem rule_none {r:Option Ex} (hr:r=none) {Q:Nat→Prop} {w w7 w8:World} (g:Grew w w7) (k:Keeps (fun i=>i=w.heap.size+1+1) w7 w8):
  RulePost r Q w (.returned (.tuple #[.agg (numL 0 0).toArray,.bool false])) w8:=by
 subst hr;exact⟨numL 0 0,rfl,zE_rd _ _,Keeps.then_ g k fun i hi e=>by omega⟩
def neutralE (f:Int) (e1 e2:Ex):Option Ex:=
 let n:Int:=if f=2∨f=3 then 1 else 0
 if isE e2 n then some e1 else if(f=0∨f=2)∧isE e1 n=true then some e2 else none
theorem neutral_any {f:Int} {e1 e2:Ex} (h1:RwOk e1) (h2:RwOk e2) {Q:Nat→Prop} {w:World} {cs1 cs2:List Value} (hwt:WTab w) (hot:OTab w) (hq:∀b,Q b→b<w.heap.size) (hr1:RdEQ w Q e1 cs1) (hr2:RdEQ w Q e2 cs2):
  Calls Tryz.prog 56 #[.int .i64 f,.agg cs1.toArray,.agg cs2.toArray] w (RulePost (neutralE f e1 e2) Q w):=by
 have HQ:=Lib.hid hq;have HR1:=Lib.hid (fun w' (g:Grew w w')=>hr1.grewQ hq g);have HR2:=Lib.hid (fun w' (g:Grew w w')=>hr2.grewQ hq g);have HE1:=Lib.hid (fun w' (g:Grew w w')=>RdEQ.toB (fun b hb=>Nat.lt_of_lt_of_le (hq b hb) g.size) _ _ (hr1.grewQ hq g));have HE2:=Lib.hid (fun w' (g:Grew w w')=>RdEQ.toB (fun b hb=>Nat.lt_of_lt_of_le (hq b hb) g.size) _ _ (hr2.grewQ hq g));have HL:=Lib.hid (And.intro hr1.len hr2.len);have HO:=Lib.hid (And.intro (hr1.one_ hq) (hr2.one_ hq));have HT:=Lib.hid (fun w' (g:Grew w w')=>And.intro (hwt.grew g) (hot.keep g (fun h=>h)));have HOK:=Lib.hid (And.intro h1 h2);obtain⟨hb1,hb2,hb3,hG⟩:=boxes3 w 34 34 34 cs1.toArray cs2.toArray (numL 0 0).toArray;clear hq hr1 hr2 h1 h2 hwt hot;go_enter Tryz.func56,Tryz.ntmps56;go_upto_region 1 with fail;change Code.wp _ _ _ _ (((w.alloc (.cells cs1.toArray 34)).alloc (.cells cs2.toArray 34)).alloc (.cells (numL 0 0).toArray 34));generalize ((w.alloc (.cells cs1.toArray 34)).alloc (.cells cs2.toArray 34)).alloc (.cells (numL 0 0).toArray 34)=w1 at*;have HB1:=Lib.hid (show ∀w',Grew w1 w'→w'.rangeAt w.heap.size 0 cs1 from fun w' g=>(hb1.grew g).rangeN 0 _ (by simp));have HB2:=Lib.hid (show ∀w',Grew w1 w'→w'.rangeAt (w.heap.size+1) 0 cs2 from fun w' g=>(hb2.grew g).rangeN 0 _ (by simp));have HB3:=Lib.hid hb3;have HG:=Lib.hid hG;have HK:=Lib.hid (Grew.refl w1);clear hb1 hb2 hb3 hG;by_cases f2:f=2
 ·subst f2;obtain⟨q2,hq2⟩:∃q,isE e2 1=q:=⟨_,rfl⟩;obtain⟨q1,hq1⟩:∃q,isE e1 1=q:=⟨_,rfl⟩;go_upto_region 4 with fail;rcases q2 with _|_
  ·go_upto_region 6 with(first|((with_reducible refine at_load 34 (.tmp 5) rfl ?_);refine wpList_load_mid rfl 34 (.tmp 5) rfl (w.heap.size+1) 0 rfl cs2 _ (HB2.out _ HK.out) Tryz.underlying34 rfl (by rw[HL.out.2];exact infoX) ?_)|(go_at_call 81;(with_reducible refine(ris_any e2 1 cs2 _ _ (HE2.out _ (HG.out.trans HK.out)):Calls _ _ _ _ _).mono ?_);rintro e3 w2 ⟨hret,k2⟩;rw[hq2]at hret;subst hret;have HK2:=Lib.hid (HK.out.trans k2);clear k2));rcases q1 with _|_
   ·refine region_seqG [(.int .i64 2),.bool false,.bool false,(.int .i64 2),.bool true,.bool true,.bool true,.agg cs1.toArray,.int .i64 1,.bool false,.bool false] _ (by kernel_rfl) (by kernel_rfl) rfl ?sH ?sT
    case sH=>
     simp only[List.toList_toArray,List.append_eq,List.cons_append,List.nil_append,putAll,Act.put,List.setIfInBounds_toArray,List.set_cons_zero,List.set_cons_succ];refine headG_run (by kernel_rfl) (fun w' hg=>?_) ?_
     ·go_simp;exact Grew.refl _
     refine headG_run (by kernel_rfl) (fun w' hg=>?_) ?_
     ·go_simp;first|done|exact Grew.refl _|exact⟨HF.out.2.2,Grew.refl _⟩|exact⟨HF.out.1,Grew.refl _⟩
     refine headG_run (by kernel_rfl) (fun w' hg=>?_) ?_
     ·go_simp;exact Grew.refl _
     refine headG_run (by kernel_rfl) (fun w' hg=>?_) ?_
     ·go_simp;exact Grew.refl _
     refine headG_run (by kernel_rfl) (fun w' hg=>?_) ?_
     ·go_simp;first|done|exact Grew.refl _|exact⟨HF.out.2.2,Grew.refl _⟩|exact⟨HF.out.1,Grew.refl _⟩
     refine headG_run (by kernel_rfl) (fun w' hg=>?_) ?_
     ·go_simp;exact Grew.refl _
     refine headG_run (by kernel_rfl) (fun w' hg=>?_) ?_
     ·go_simp;exact Grew.refl _
     refine headG_run (by kernel_rfl) (fun w' hg=>?_) ?_
     ·refine wp_load_mid 34 (.tmp 4) rfl (w.heap.size) 0 rfl cs1 _ (HB1.out _ (HK2.out.trans hg)) Tryz.underlying34 rfl (by rw[HL.out.1];exact infoX) ?_;exact⟨rfl,Grew.refl _⟩
     refine headG_run (by kernel_rfl) (fun w' hg=>?_) ?_
     ·go_simp;exact Grew.refl _
     refine headG_run (by kernel_rfl) (fun w' hg=>?_) ?_
     ·go_simp;(with_reducible refine(ris_any e1 1 cs1 _ _ (HE1.out _ (HG.out.trans (HK2.out.trans hg))):Calls _ _ _ _ _).mono ?_);rintro e wq ⟨rfl,kq⟩;exact⟨by rw[hq1];try rfl,kq⟩
     refine headG_run (by kernel_rfl) (fun w' hg=>?_) ?_
     ·go_simp;exact Grew.refl _
     exact headG_nil
    case sT=>
     intro w9 hg9;simp only[List.toList_toArray,List.append_eq,List.cons_append,List.nil_append,putAll,Act.put,List.setIfInBounds_toArray,List.set_cons_zero,List.set_cons_succ];have HK3:=Lib.hid (HK2.out.trans hg9);go_wp2_with(first|((with_reducible refine at_load 34 (.tmp 5) rfl ?_);refine wpList_load_mid rfl 34 (.tmp 5) rfl (w.heap.size+1) 0 rfl cs2 _ (HB2.out _ HK3.out) Tryz.underlying34 rfl (by rw[HL.out.2];exact infoX) ?_)|((with_reducible refine at_store 34 (.tmp 6) (.tmp 30) rfl ?_);refine stN 34 (.tmp 6) (.tmp 30) (w.heap.size+1+1) cs2 (numL 0 0) 34 (by rw[HL.out.2];exact infoX) (by rw[HL.out.2];rfl) HO.out.2 rfl rfl rfl rfl (HB3.out.grew HK3.out) ?_;intro w8 hb8 k8 d8)|((with_reducible refine at_store 34 (.tmp 6) (.tmp 31) rfl ?_);refine stN 34 (.tmp 6) (.tmp 31) (w.heap.size+1+1) (numL 0 0) (numL 0 0) 34 infoX rfl (numL_ones _ _) rfl rfl rfl rfl (HB3.out.grew HK3.out) ?_;intro w8 hb8 k8 d8));refine bodyPost_ret (results_ex rfl rfl rfl infoX Tryz.underlying34 rfl hb8) rfl ?_;exact rule_none (by unfold neutralE;simp[hq2,hq1]) (HG.out.trans HK3.out) k8
   refine region_seqG [(.int .i64 2),.bool false,.bool false,(.int .i64 2),.bool true,.bool true,.bool true,.agg cs1.toArray,.int .i64 1,.bool true,.bool true] _ (by kernel_rfl) (by kernel_rfl) rfl ?sH ?sT
   case sH=>
    simp only[List.toList_toArray,List.append_eq,List.cons_append,List.nil_append,putAll,Act.put,List.setIfInBounds_toArray,List.set_cons_zero,List.set_cons_succ];refine headG_run (by kernel_rfl) (fun w' hg=>?_) ?_
    ·go_simp;exact Grew.refl _
    refine headG_run (by kernel_rfl) (fun w' hg=>?_) ?_
    ·go_simp;first|done|exact Grew.refl _|exact⟨HF.out.2.2,Grew.refl _⟩|exact⟨HF.out.1,Grew.refl _⟩
    refine headG_run (by kernel_rfl) (fun w' hg=>?_) ?_
    ·go_simp;exact Grew.refl _
    refine headG_run (by kernel_rfl) (fun w' hg=>?_) ?_
    ·go_simp;exact Grew.refl _
    refine headG_run (by kernel_rfl) (fun w' hg=>?_) ?_
    ·go_simp;first|done|exact Grew.refl _|exact⟨HF.out.2.2,Grew.refl _⟩|exact⟨HF.out.1,Grew.refl _⟩
    refine headG_run (by kernel_rfl) (fun w' hg=>?_) ?_
    ·go_simp;exact Grew.refl _
    refine headG_run (by kernel_rfl) (fun w' hg=>?_) ?_
    ·go_simp;exact Grew.refl _
    refine headG_run (by kernel_rfl) (fun w' hg=>?_) ?_
    ·refine wp_load_mid 34 (.tmp 4) rfl (w.heap.size) 0 rfl cs1 _ (HB1.out _ (HK2.out.trans hg)) Tryz.underlying34 rfl (by rw[HL.out.1];exact infoX) ?_;exact⟨rfl,Grew.refl _⟩
    refine headG_run (by kernel_rfl) (fun w' hg=>?_) ?_
    ·go_simp;exact Grew.refl _
    refine headG_run (by kernel_rfl) (fun w' hg=>?_) ?_
    ·go_simp;(with_reducible refine(ris_any e1 1 cs1 _ _ (HE1.out _ (HG.out.trans (HK2.out.trans hg))):Calls _ _ _ _ _).mono ?_);rintro e wq ⟨rfl,kq⟩;exact⟨by rw[hq1];try rfl,kq⟩
    refine headG_run (by kernel_rfl) (fun w' hg=>?_) ?_
    ·go_simp;exact Grew.refl _
    exact headG_nil
   case sT=>
    intro w9 hg9;simp only[List.toList_toArray,List.append_eq,List.cons_append,List.nil_append,putAll,Act.put,List.setIfInBounds_toArray,List.set_cons_zero,List.set_cons_succ];have HK3:=Lib.hid (HK2.out.trans hg9);go_wp2_with(first|((with_reducible refine at_load 34 (.tmp 5) rfl ?_);refine wpList_load_mid rfl 34 (.tmp 5) rfl (w.heap.size+1) 0 rfl cs2 _ (HB2.out _ HK3.out) Tryz.underlying34 rfl (by rw[HL.out.2];exact infoX) ?_)|((with_reducible refine at_store 34 (.tmp 6) (.tmp 30) rfl ?_);refine stN 34 (.tmp 6) (.tmp 30) (w.heap.size+1+1) cs2 (numL 0 0) 34 (by rw[HL.out.2];exact infoX) (by rw[HL.out.2];rfl) HO.out.2 rfl rfl rfl rfl (HB3.out.grew HK3.out) ?_;intro w8 hb8 k8 d8)|((with_reducible refine at_store 34 (.tmp 6) (.tmp 31) rfl ?_);refine stN 34 (.tmp 6) (.tmp 31) (w.heap.size+1+1) (numL 0 0) (numL 0 0) 34 infoX rfl (numL_ones _ _) rfl rfl rfl rfl (HB3.out.grew HK3.out) ?_;intro w8 hb8 k8 d8));refine bodyPost_ret (results_ex rfl rfl rfl (by rw[HL.out.2];exact infoX) Tryz.underlying34 rfl hb8) rfl ?_;exact rule_arg (by unfold neutralE;simp[hq2,hq1]) HQ.out (HR2.out _ (Grew.refl _)) (HG.out.trans HK3.out) k8
  go_wp2_with(first|((with_reducible refine at_load 34 (.tmp 5) rfl ?_);refine wpList_load_mid rfl 34 (.tmp 5) rfl (w.heap.size+1) 0 rfl cs2 _ (HB2.out _ HK.out) Tryz.underlying34 rfl (by rw[HL.out.2];exact infoX) ?_)|(go_at_call 81;(with_reducible refine(ris_any e2 1 cs2 _ _ (HE2.out _ (HG.out.trans HK.out)):Calls _ _ _ _ _).mono ?_);rintro e3 w2 ⟨hret,k2⟩;rw[hq2]at hret;subst hret;have HK2:=Lib.hid (HK.out.trans k2);clear k2)|((with_reducible refine at_load 34 (.tmp 4) rfl ?_);refine wpList_load_mid rfl 34 (.tmp 4) rfl (w.heap.size) 0 rfl cs1 _ (HB1.out _ HK2.out) Tryz.underlying34 rfl (by rw[HL.out.1];exact infoX) ?_)|((with_reducible refine at_store 34 (.tmp 6) (.tmp 18) rfl ?_);refine stN 34 (.tmp 6) (.tmp 18) (w.heap.size+1+1) cs1 (numL 0 0) 34 (by rw[HL.out.1];exact infoX) (by rw[HL.out.1];rfl) HO.out.1 rfl rfl rfl rfl (HB3.out.grew HK2.out) ?_;intro w8 hb8 k8 d8));refine bodyPost_ret (results_ex rfl rfl rfl (by rw[HL.out.1];exact infoX) Tryz.underlying34 rfl hb8) rfl ?_;exact rule_arg (by unfold neutralE;simp[hq2,hq1]) HQ.out (HR1.out _ (Grew.refl _)) (HG.out.trans HK2.out) k8
 have t2:(f==2)=false:=by rw[beq_eq_false_iff_ne];exact f2
 by_cases f3:f=3
 ·subst f3;obtain⟨q2,hq2⟩:∃q,isE e2 1=q:=⟨_,rfl⟩;obtain⟨q1,hq1⟩:∃q,isE e1 1=q:=⟨_,rfl⟩;go_upto_region 4 with fail;rcases q2 with _|_
  ·go_upto_region 6 with(first|((with_reducible refine at_load 34 (.tmp 5) rfl ?_);refine wpList_load_mid rfl 34 (.tmp 5) rfl (w.heap.size+1) 0 rfl cs2 _ (HB2.out _ HK.out) Tryz.underlying34 rfl (by rw[HL.out.2];exact infoX) ?_)|(go_at_call 81;(with_reducible refine(ris_any e2 1 cs2 _ _ (HE2.out _ (HG.out.trans HK.out)):Calls _ _ _ _ _).mono ?_);rintro e3 w2 ⟨hret,k2⟩;rw[hq2]at hret;subst hret;have HK2:=Lib.hid (HK.out.trans k2);clear k2));refine region_seqG [(.int .i64 3),.bool false,.bool false,(.int .i64 3),.bool false,.bool false,.bool false,undef,undef,undef,.bool false] _ (by kernel_rfl) (by kernel_rfl) rfl ?sH ?sT
   case sH=>
    simp only[List.toList_toArray,List.append_eq,List.cons_append,List.nil_append,putAll,Act.put,List.setIfInBounds_toArray,List.set_cons_zero,List.set_cons_succ];refine headG_run (by kernel_rfl) (fun w' hg=>?_) ?_
    ·go_simp;exact Grew.refl _
    refine headG_run (by kernel_rfl) (fun w' hg=>?_) ?_
    ·go_simp;first|done|exact Grew.refl _|exact⟨HF.out.2.2,Grew.refl _⟩|exact⟨HF.out.1,Grew.refl _⟩
    refine headG_run (by kernel_rfl) (fun w' hg=>?_) ?_
    ·go_simp;exact Grew.refl _
    refine headG_run (by kernel_rfl) (fun w' hg=>?_) ?_
    ·go_simp;exact Grew.refl _
    refine headG_run (by kernel_rfl) (fun w' hg=>?_) ?_
    ·go_simp;first|done|exact Grew.refl _|exact⟨HF.out.2.2,Grew.refl _⟩|exact⟨HF.out.1,Grew.refl _⟩
    refine headG_run (by kernel_rfl) (fun w' hg=>?_) ?_
    ·go_simp;exact Grew.refl _
    refine headG_run (by kernel_rfl) (fun w' hg=>?_) ?_
    ·go_simp;exact Grew.refl _
    refine headG_skip (by kernel_rfl) (by kernel_rfl) ?_;refine headG_skip (by kernel_rfl) (by kernel_rfl) ?_;refine headG_skip (by kernel_rfl) (by kernel_rfl) ?_;refine headG_run (by kernel_rfl) (fun w' hg=>?_) ?_
    ·go_simp;exact Grew.refl _
    exact headG_nil
   case sT=>
    intro w9 hg9;simp only[List.toList_toArray,List.append_eq,List.cons_append,List.nil_append,putAll,Act.put,List.setIfInBounds_toArray,List.set_cons_zero,List.set_cons_succ];have HK3:=Lib.hid (HK2.out.trans hg9);go_wp2_with(((with_reducible refine at_store 34 (.tmp 6) (.tmp 31) rfl ?_);refine stN 34 (.tmp 6) (.tmp 31) (w.heap.size+1+1) (numL 0 0) (numL 0 0) 34 infoX rfl (numL_ones _ _) rfl rfl rfl rfl (HB3.out.grew HK3.out) ?_;intro w8 hb8 k8 d8));refine bodyPost_ret (results_ex rfl rfl rfl infoX Tryz.underlying34 rfl hb8) rfl ?_;exact rule_none (by unfold neutralE;simp[hq2,hq1]) (HG.out.trans HK3.out) k8
  go_wp2_with(first|((with_reducible refine at_load 34 (.tmp 5) rfl ?_);refine wpList_load_mid rfl 34 (.tmp 5) rfl (w.heap.size+1) 0 rfl cs2 _ (HB2.out _ HK.out) Tryz.underlying34 rfl (by rw[HL.out.2];exact infoX) ?_)|(go_at_call 81;(with_reducible refine(ris_any e2 1 cs2 _ _ (HE2.out _ (HG.out.trans HK.out)):Calls _ _ _ _ _).mono ?_);rintro e3 w2 ⟨hret,k2⟩;rw[hq2]at hret;subst hret;have HK2:=Lib.hid (HK.out.trans k2);clear k2)|((with_reducible refine at_load 34 (.tmp 4) rfl ?_);refine wpList_load_mid rfl 34 (.tmp 4) rfl (w.heap.size) 0 rfl cs1 _ (HB1.out _ HK2.out) Tryz.underlying34 rfl (by rw[HL.out.1];exact infoX) ?_)|((with_reducible refine at_store 34 (.tmp 6) (.tmp 18) rfl ?_);refine stN 34 (.tmp 6) (.tmp 18) (w.heap.size+1+1) cs1 (numL 0 0) 34 (by rw[HL.out.1];exact infoX) (by rw[HL.out.1];rfl) HO.out.1 rfl rfl rfl rfl (HB3.out.grew HK2.out) ?_;intro w8 hb8 k8 d8));refine bodyPost_ret (results_ex rfl rfl rfl (by rw[HL.out.1];exact infoX) Tryz.underlying34 rfl hb8) rfl ?_;exact rule_arg (by unfold neutralE;simp[hq2,hq1]) HQ.out (HR1.out _ (Grew.refl _)) (HG.out.trans HK2.out) k8
 have t3:(f==3)=false:=by rw[beq_eq_false_iff_ne];exact f3
 by_cases f0:f=0
 ·subst f0;obtain⟨q2,hq2⟩:∃q,isE e2 0=q:=⟨_,rfl⟩;obtain⟨q1,hq1⟩:∃q,isE e1 0=q:=⟨_,rfl⟩;go_upto_region 4 with fail;rcases q2 with _|_
  ·go_upto_region 6 with(first|((with_reducible refine at_load 34 (.tmp 5) rfl ?_);refine wpList_load_mid rfl 34 (.tmp 5) rfl (w.heap.size+1) 0 rfl cs2 _ (HB2.out _ HK.out) Tryz.underlying34 rfl (by rw[HL.out.2];exact infoX) ?_)|(go_at_call 81;(with_reducible refine(ris_any e2 0 cs2 _ _ (HE2.out _ (HG.out.trans HK.out)):Calls _ _ _ _ _).mono ?_);rintro e3 w2 ⟨hret,k2⟩;rw[hq2]at hret;subst hret;have HK2:=Lib.hid (HK.out.trans k2);clear k2));rcases q1 with _|_
   ·refine region_seqG [(.int .i64 0),.bool true,.bool true,undef,undef,.bool true,.bool true,.agg cs1.toArray,.int .i64 0,.bool false,.bool false] _ (by kernel_rfl) (by kernel_rfl) rfl ?sH ?sT
    case sH=>
     simp only[List.toList_toArray,List.append_eq,List.cons_append,List.nil_append,putAll,Act.put,List.setIfInBounds_toArray,List.set_cons_zero,List.set_cons_succ];refine headG_run (by kernel_rfl) (fun w' hg=>?_) ?_
     ·go_simp;exact Grew.refl _
     refine headG_run (by kernel_rfl) (fun w' hg=>?_) ?_
     ·go_simp;first|done|exact Grew.refl _|exact⟨HF.out.2.2,Grew.refl _⟩|exact⟨HF.out.1,Grew.refl _⟩
     refine headG_run (by kernel_rfl) (fun w' hg=>?_) ?_
     ·go_simp;exact Grew.refl _
     refine headG_skip (by kernel_rfl) (by kernel_rfl) ?_;refine headG_skip (by kernel_rfl) (by kernel_rfl) ?_;refine headG_run (by kernel_rfl) (fun w' hg=>?_) ?_
     ·go_simp;exact Grew.refl _
     refine headG_run (by kernel_rfl) (fun w' hg=>?_) ?_
     ·go_simp;exact Grew.refl _
     refine headG_run (by kernel_rfl) (fun w' hg=>?_) ?_
     ·refine wp_load_mid 34 (.tmp 4) rfl (w.heap.size) 0 rfl cs1 _ (HB1.out _ (HK2.out.trans hg)) Tryz.underlying34 rfl (by rw[HL.out.1];exact infoX) ?_;exact⟨rfl,Grew.refl _⟩
     refine headG_run (by kernel_rfl) (fun w' hg=>?_) ?_
     ·go_simp;exact Grew.refl _
     refine headG_run (by kernel_rfl) (fun w' hg=>?_) ?_
     ·go_simp;(with_reducible refine(ris_any e1 0 cs1 _ _ (HE1.out _ (HG.out.trans (HK2.out.trans hg))):Calls _ _ _ _ _).mono ?_);rintro e wq ⟨rfl,kq⟩;exact⟨by rw[hq1];try rfl,kq⟩
     refine headG_run (by kernel_rfl) (fun w' hg=>?_) ?_
     ·go_simp;exact Grew.refl _
     exact headG_nil
    case sT=>
     intro w9 hg9;simp only[List.toList_toArray,List.append_eq,List.cons_append,List.nil_append,putAll,Act.put,List.setIfInBounds_toArray,List.set_cons_zero,List.set_cons_succ];have HK3:=Lib.hid (HK2.out.trans hg9);go_wp2_with(first|((with_reducible refine at_load 34 (.tmp 5) rfl ?_);refine wpList_load_mid rfl 34 (.tmp 5) rfl (w.heap.size+1) 0 rfl cs2 _ (HB2.out _ HK3.out) Tryz.underlying34 rfl (by rw[HL.out.2];exact infoX) ?_)|((with_reducible refine at_store 34 (.tmp 6) (.tmp 30) rfl ?_);refine stN 34 (.tmp 6) (.tmp 30) (w.heap.size+1+1) cs2 (numL 0 0) 34 (by rw[HL.out.2];exact infoX) (by rw[HL.out.2];rfl) HO.out.2 rfl rfl rfl rfl (HB3.out.grew HK3.out) ?_;intro w8 hb8 k8 d8)|((with_reducible refine at_store 34 (.tmp 6) (.tmp 31) rfl ?_);refine stN 34 (.tmp 6) (.tmp 31) (w.heap.size+1+1) (numL 0 0) (numL 0 0) 34 infoX rfl (numL_ones _ _) rfl rfl rfl rfl (HB3.out.grew HK3.out) ?_;intro w8 hb8 k8 d8));refine bodyPost_ret (results_ex rfl rfl rfl infoX Tryz.underlying34 rfl hb8) rfl ?_;exact rule_none (by unfold neutralE;simp[hq2,hq1]) (HG.out.trans HK3.out) k8
   refine region_seqG [(.int .i64 0),.bool true,.bool true,undef,undef,.bool true,.bool true,.agg cs1.toArray,.int .i64 0,.bool true,.bool true] _ (by kernel_rfl) (by kernel_rfl) rfl ?sH ?sT
   case sH=>
    simp only[List.toList_toArray,List.append_eq,List.cons_append,List.nil_append,putAll,Act.put,List.setIfInBounds_toArray,List.set_cons_zero,List.set_cons_succ];refine headG_run (by kernel_rfl) (fun w' hg=>?_) ?_
    ·go_simp;exact Grew.refl _
    refine headG_run (by kernel_rfl) (fun w' hg=>?_) ?_
    ·go_simp;first|done|exact Grew.refl _|exact⟨HF.out.2.2,Grew.refl _⟩|exact⟨HF.out.1,Grew.refl _⟩
    refine headG_run (by kernel_rfl) (fun w' hg=>?_) ?_
    ·go_simp;exact Grew.refl _
    refine headG_skip (by kernel_rfl) (by kernel_rfl) ?_;refine headG_skip (by kernel_rfl) (by kernel_rfl) ?_;refine headG_run (by kernel_rfl) (fun w' hg=>?_) ?_
    ·go_simp;exact Grew.refl _
    refine headG_run (by kernel_rfl) (fun w' hg=>?_) ?_
    ·go_simp;exact Grew.refl _
    refine headG_run (by kernel_rfl) (fun w' hg=>?_) ?_
    ·refine wp_load_mid 34 (.tmp 4) rfl (w.heap.size) 0 rfl cs1 _ (HB1.out _ (HK2.out.trans hg)) Tryz.underlying34 rfl (by rw[HL.out.1];exact infoX) ?_;exact⟨rfl,Grew.refl _⟩
    refine headG_run (by kernel_rfl) (fun w' hg=>?_) ?_
    ·go_simp;exact Grew.refl _
    refine headG_run (by kernel_rfl) (fun w' hg=>?_) ?_
    ·go_simp;(with_reducible refine(ris_any e1 0 cs1 _ _ (HE1.out _ (HG.out.trans (HK2.out.trans hg))):Calls _ _ _ _ _).mono ?_);rintro e wq ⟨rfl,kq⟩;exact⟨by rw[hq1];try rfl,kq⟩
    refine headG_run (by kernel_rfl) (fun w' hg=>?_) ?_
    ·go_simp;exact Grew.refl _
    exact headG_nil
   case sT=>
    intro w9 hg9;simp only[List.toList_toArray,List.append_eq,List.cons_append,List.nil_append,putAll,Act.put,List.setIfInBounds_toArray,List.set_cons_zero,List.set_cons_succ];have HK3:=Lib.hid (HK2.out.trans hg9);go_wp2_with(first|((with_reducible refine at_load 34 (.tmp 5) rfl ?_);refine wpList_load_mid rfl 34 (.tmp 5) rfl (w.heap.size+1) 0 rfl cs2 _ (HB2.out _ HK3.out) Tryz.underlying34 rfl (by rw[HL.out.2];exact infoX) ?_)|((with_reducible refine at_store 34 (.tmp 6) (.tmp 30) rfl ?_);refine stN 34 (.tmp 6) (.tmp 30) (w.heap.size+1+1) cs2 (numL 0 0) 34 (by rw[HL.out.2];exact infoX) (by rw[HL.out.2];rfl) HO.out.2 rfl rfl rfl rfl (HB3.out.grew HK3.out) ?_;intro w8 hb8 k8 d8)|((with_reducible refine at_store 34 (.tmp 6) (.tmp 31) rfl ?_);refine stN 34 (.tmp 6) (.tmp 31) (w.heap.size+1+1) (numL 0 0) (numL 0 0) 34 infoX rfl (numL_ones _ _) rfl rfl rfl rfl (HB3.out.grew HK3.out) ?_;intro w8 hb8 k8 d8));refine bodyPost_ret (results_ex rfl rfl rfl (by rw[HL.out.2];exact infoX) Tryz.underlying34 rfl hb8) rfl ?_;exact rule_arg (by unfold neutralE;simp[hq2,hq1]) HQ.out (HR2.out _ (Grew.refl _)) (HG.out.trans HK3.out) k8
  go_wp2_with(first|((with_reducible refine at_load 34 (.tmp 5) rfl ?_);refine wpList_load_mid rfl 34 (.tmp 5) rfl (w.heap.size+1) 0 rfl cs2 _ (HB2.out _ HK.out) Tryz.underlying34 rfl (by rw[HL.out.2];exact infoX) ?_)|(go_at_call 81;(with_reducible refine(ris_any e2 0 cs2 _ _ (HE2.out _ (HG.out.trans HK.out)):Calls _ _ _ _ _).mono ?_);rintro e3 w2 ⟨hret,k2⟩;rw[hq2]at hret;subst hret;have HK2:=Lib.hid (HK.out.trans k2);clear k2)|((with_reducible refine at_load 34 (.tmp 4) rfl ?_);refine wpList_load_mid rfl 34 (.tmp 4) rfl (w.heap.size) 0 rfl cs1 _ (HB1.out _ HK2.out) Tryz.underlying34 rfl (by rw[HL.out.1];exact infoX) ?_)|((with_reducible refine at_store 34 (.tmp 6) (.tmp 18) rfl ?_);refine stN 34 (.tmp 6) (.tmp 18) (w.heap.size+1+1) cs1 (numL 0 0) 34 (by rw[HL.out.1];exact infoX) (by rw[HL.out.1];rfl) HO.out.1 rfl rfl rfl rfl (HB3.out.grew HK2.out) ?_;intro w8 hb8 k8 d8));refine bodyPost_ret (results_ex rfl rfl rfl (by rw[HL.out.1];exact infoX) Tryz.underlying34 rfl hb8) rfl ?_;exact rule_arg (by unfold neutralE;simp[hq2,hq1]) HQ.out (HR1.out _ (Grew.refl _)) (HG.out.trans HK2.out) k8
 have t0:(f==0)=false:=by rw[beq_eq_false_iff_ne];exact f0
 have HF:=Lib.hid (And.intro f2 (And.intro f3 f0));clear f2 f3 f0;obtain⟨q2,hq2⟩:∃q,isE e2 0=q:=⟨_,rfl⟩;obtain⟨q1,hq1⟩:∃q,isE e1 0=q:=⟨_,rfl⟩;go_upto_region 4 with fail;rcases q2 with _|_
 ·go_upto_region 6 with(first|((with_reducible refine at_load 34 (.tmp 5) rfl ?_);refine wpList_load_mid rfl 34 (.tmp 5) rfl (w.heap.size+1) 0 rfl cs2 _ (HB2.out _ HK.out) Tryz.underlying34 rfl (by rw[HL.out.2];exact infoX) ?_)|(go_at_call 81;(with_reducible refine(ris_any e2 0 cs2 _ _ (HE2.out _ (HG.out.trans HK.out)):Calls _ _ _ _ _).mono ?_);rintro e3 w2 ⟨hret,k2⟩;rw[hq2]at hret;subst hret;have HK2:=Lib.hid (HK.out.trans k2);clear k2));refine region_seqG [(.int .i64 f),.bool false,.bool false,(.int .i64 f),.bool false,.bool false,.bool false,undef,undef,undef,.bool false] _ (by kernel_rfl) (by kernel_rfl) rfl ?sH ?sT
  case sH=>
   simp only[List.toList_toArray,List.append_eq,List.cons_append,List.nil_append,putAll,Act.put,List.setIfInBounds_toArray,List.set_cons_zero,List.set_cons_succ];refine headG_run (by kernel_rfl) (fun w' hg=>?_) ?_
   ·go_simp;exact Grew.refl _
   refine headG_run (by kernel_rfl) (fun w' hg=>?_) ?_
   ·go_simp;first|done|exact Grew.refl _|exact⟨HF.out.2.2,Grew.refl _⟩|exact⟨HF.out.1,Grew.refl _⟩
   refine headG_run (by kernel_rfl) (fun w' hg=>?_) ?_
   ·go_simp;exact Grew.refl _
   refine headG_run (by kernel_rfl) (fun w' hg=>?_) ?_
   ·go_simp;exact Grew.refl _
   refine headG_run (by kernel_rfl) (fun w' hg=>?_) ?_
   ·go_simp;first|done|exact Grew.refl _|exact⟨HF.out.2.2,Grew.refl _⟩|exact⟨HF.out.1,Grew.refl _⟩
   refine headG_run (by kernel_rfl) (fun w' hg=>?_) ?_
   ·go_simp;exact Grew.refl _
   refine headG_run (by kernel_rfl) (fun w' hg=>?_) ?_
   ·go_simp;exact Grew.refl _
   refine headG_skip (by kernel_rfl) (by kernel_rfl) ?_;refine headG_skip (by kernel_rfl) (by kernel_rfl) ?_;refine headG_skip (by kernel_rfl) (by kernel_rfl) ?_;refine headG_run (by kernel_rfl) (fun w' hg=>?_) ?_
   ·go_simp;exact Grew.refl _
   exact headG_nil
  case sT=>
   intro w9 hg9;simp only[List.toList_toArray,List.append_eq,List.cons_append,List.nil_append,putAll,Act.put,List.setIfInBounds_toArray,List.set_cons_zero,List.set_cons_succ];have HK3:=Lib.hid (HK2.out.trans hg9);go_wp2_with(((with_reducible refine at_store 34 (.tmp 6) (.tmp 31) rfl ?_);refine stN 34 (.tmp 6) (.tmp 31) (w.heap.size+1+1) (numL 0 0) (numL 0 0) 34 infoX rfl (numL_ones _ _) rfl rfl rfl rfl (HB3.out.grew HK3.out) ?_;intro w8 hb8 k8 d8));refine bodyPost_ret (results_ex rfl rfl rfl infoX Tryz.underlying34 rfl hb8) rfl ?_;exact rule_none (by unfold neutralE;simp[HF.out.1,HF.out.2.1,HF.out.2.2,hq2,hq1]) (HG.out.trans HK3.out) k8
 go_wp2_with(first|((with_reducible refine at_load 34 (.tmp 5) rfl ?_);refine wpList_load_mid rfl 34 (.tmp 5) rfl (w.heap.size+1) 0 rfl cs2 _ (HB2.out _ HK.out) Tryz.underlying34 rfl (by rw[HL.out.2];exact infoX) ?_)|(go_at_call 81;(with_reducible refine(ris_any e2 0 cs2 _ _ (HE2.out _ (HG.out.trans HK.out)):Calls _ _ _ _ _).mono ?_);rintro e3 w2 ⟨hret,k2⟩;rw[hq2]at hret;subst hret;have HK2:=Lib.hid (HK.out.trans k2);clear k2)|((with_reducible refine at_load 34 (.tmp 4) rfl ?_);refine wpList_load_mid rfl 34 (.tmp 4) rfl (w.heap.size) 0 rfl cs1 _ (HB1.out _ HK2.out) Tryz.underlying34 rfl (by rw[HL.out.1];exact infoX) ?_)|((with_reducible refine at_store 34 (.tmp 6) (.tmp 18) rfl ?_);refine stN 34 (.tmp 6) (.tmp 18) (w.heap.size+1+1) cs1 (numL 0 0) 34 (by rw[HL.out.1];exact infoX) (by rw[HL.out.1];rfl) HO.out.1 rfl rfl rfl rfl (HB3.out.grew HK2.out) ?_;intro w8 hb8 k8 d8));refine bodyPost_ret (results_ex rfl rfl rfl (by rw[HL.out.1];exact infoX) Tryz.underlying34 rfl hb8) rfl ?_;exact rule_arg (by unfold neutralE;simp[HF.out.1,HF.out.2.1,HF.out.2.2,hq2,hq1]) HQ.out (HR1.out _ (Grew.refl _)) (HG.out.trans HK2.out) k8
end Go.Proofs.YtcimmbhdcebehaaGreatDoor
