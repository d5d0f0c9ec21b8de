/- package rewrite: the rules neutral, nothing, vanish. -/
import Derived.Test.YthpflelgbadkcaaGreatDoorRewriteReadsP01
import Derived.Test.YthpflelgbadkcaaGreatDoorRewriteReadsP27
import Derived.Test.YthpflelgbadkcaaGreatDoorRewriteReadsP18
set_option maxRecDepth 100000
set_option maxHeartbeats 12800000
set_option linter.unusedVariables false
set_option linter.unusedSimpArgs false
namespace Go.Proofs.YthpflelgbadkcaaGreatDoor
open Go.RowKit Pl
def CO (r:Option Ex) (Q:Nat→Prop) (w:World) (e':Ending) (w':World):Prop:=∃cs,e'= .returned (.tuple #[.agg cs.toArray,.bool r.isSome])∧AW w' (fun b=>Q b∨(w.heap.size≤b∧b<w'.heap.size)) (r.getD zE) cs∧A5 w w'
theorem Cs {r:Option Ex} {e:Ex} (hr:r=some e) {Q:Nat→Prop} {w w7 w8:World} {cs:List Value} (hq:∀b,Q b→b<w.heap.size) (h:AW w Q e cs) (g:A5 w w7) (k:AC (fun i=>i=w.heap.size+1+1) w7 w8):
  CO r Q w (.returned (.tuple #[.agg cs.toArray,.bool true])) w8:=by
 subst hr;have g8:A5 w w8:=Sb g k fun i hi e=>by omega
 exact⟨cs,rfl,AW.keep (S:=fun _=>False) (fun b hb=>⟨hq b hb,fun h=>h,.inl hb⟩) g8 _ _ h,g8⟩
theorem BC {r:Option Ex} (hr:r=none) {Q:Nat→Prop} {w w7 w8:World} (g:A5 w w7) (k:AC (fun i=>i=w.heap.size+1+1) w7 w8):
  CO r Q w (.returned (.tuple #[.agg (AH 0 0).toArray,.bool false])) w8:=by
 subst hr;exact⟨AH 0 0,rfl,OG _ _,Sb g k fun i hi e=>by omega⟩
def Bq (f:Int) (e1 e2:Ex):Option Ex:=
 let n:Int:=if f=2∨f=3 then 1 else 0
 if Gw e2 n then some e1 else if(f=0∨f=2)∧Gw e1 n=true then some e2 else none
theorem LD {f:Int} {e1 e2:Ex} (h1:CG e1) (h2:CG e2) {Q:Nat→Prop} {w:World} {cs1 cs2:List Value} (hwt:D5 w) (hot:Dc w) (hq:∀b,Q b→b<w.heap.size) (hr1:AW w Q e1 cs1) (hr2:AW w Q e2 cs2):
  Calls Tryz.prog 57 #[.int .i64 f,.agg cs1.toArray,.agg cs2.toArray] w (CO (Bq f e1 e2) Q w):=by
 have HQ:=S9 hq;have HR1:=S9 (fun w' (g:A5 w w')=>hr1.grewQ hq g);have HR2:=S9 (fun w' (g:A5 w w')=>hr2.grewQ hq g);have HE1:=S9 (fun w' (g:A5 w w')=>AW.toB (fun b hb=>SE (hq b hb) g.size) _ _ (hr1.grewQ hq g));have HE2:=S9 (fun w' (g:A5 w w')=>AW.toB (fun b hb=>SE (hq b hb) g.size) _ _ (hr2.grewQ hq g));have HL:=S9 (SC hr1.len hr2.len);have HO:=S9 (SC (hr1.one_ hq) (hr2.one_ hq));have HT:=S9 (fun w' (g:A5 w w')=>SC (hwt.grew g) (hot.keep g (fun h=>h)));have HOK:=S9 (SC h1 h2);obtain⟨hb1,hb2,hb3,hG⟩:=Cb w 29 29 29 cs1.toArray cs2.toArray (AH 0 0).toArray;clear hq hr1 hr2 h1 h2 hwt hot;go_enter Tryz.func57,Tryz.ntmps57;go_upto_region 1 with fail;change Code.wp _ _ _ _ (((w.alloc (.cells cs1.toArray 29)).alloc (.cells cs2.toArray 29)).alloc (.cells (AH 0 0).toArray 29));generalize ((w.alloc (.cells cs1.toArray 29)).alloc (.cells cs2.toArray 29)).alloc (.cells (AH 0 0).toArray 29)=w1 at*;have HB1:=S9 (show ∀w',A5 w1 w'→w'.rangeAt w.heap.size 0 cs1 from fun w' g=>(hb1.grew g).rangeN 0 _ (by simp));have HB2:=S9 (show ∀w',A5 w1 w'→w'.rangeAt (w.heap.size+1) 0 cs2 from fun w' g=>(hb2.grew g).rangeN 0 _ (by simp));have HB3:=S9 hb3;have HG:=S9 hG;have HK:=S9 (Sa w1);clear hb1 hb2 hb3 hG;by_cases f2:f=2
 ·subst f2;obtain⟨q2,hq2⟩:∃q,Gw e2 1=q:=⟨_,rfl⟩;obtain⟨q1,hq1⟩:∃q,Gw e1 1=q:=⟨_,rfl⟩;go_upto_region 4 with fail;rcases q2 with _|_
  ·go_upto_region 6 with(first|((with_reducible refine AG 29 (.tmp 5) rfl ?_);refine wpList_load_mid rfl 29 (.tmp 5) rfl (w.heap.size+1) 0 rfl cs2 _ (HB2.out _ HK.out) Tryz.underlying29 rfl (by rw[HL.out.2];exact AD) ?_)|(go_at_call 85;(with_reducible refine(CE e2 1 cs2 _ _ (HE2.out _ (HG.out.trans HK.out)):Calls _ _ _ _ _).mono ?_);rintro e3 w2 ⟨hret,k2⟩;rw[hq2]at hret;subst hret;have HK2:=S9 (HK.out.trans k2);clear k2));rcases q1 with _|_
   ·refine AK [(.int .i64 2),.bool false,.bool false,(.int .i64 2),.bool true,.bool true,.bool true,.agg cs1.toArray,.int .i64 1,.bool false,.bool false] _ (by kernel_rfl) (by kernel_rfl) rfl ?sH ?sT
    case sH=>
     simp only[List.toList_toArray,List.append_eq,List.cons_append,List.nil_append,AI,Act.put,List.setIfInBounds_toArray,List.set_cons_zero,List.set_cons_succ];refine A4 (by kernel_rfl) (fun w' hg=>?_) ?_
     ·go_simp;exact Sa _
     refine A4 (by kernel_rfl) (fun w' hg=>?_) ?_
     ·go_simp;first|done|exact Sa _|exact⟨HF.out.2.2,Sa _⟩|exact⟨HF.out.1,Sa _⟩
     refine A4 (by kernel_rfl) (fun w' hg=>?_) ?_
     ·go_simp;exact Sa _
     refine A4 (by kernel_rfl) (fun w' hg=>?_) ?_
     ·go_simp;exact Sa _
     refine A4 (by kernel_rfl) (fun w' hg=>?_) ?_
     ·go_simp;first|done|exact Sa _|exact⟨HF.out.2.2,Sa _⟩|exact⟨HF.out.1,Sa _⟩
     refine A4 (by kernel_rfl) (fun w' hg=>?_) ?_
     ·go_simp;exact Sa _
     refine A4 (by kernel_rfl) (fun w' hg=>?_) ?_
     ·go_simp;exact Sa _
     refine A4 (by kernel_rfl) (fun w' hg=>?_) ?_
     ·refine wp_load_mid 29 (.tmp 4) rfl (w.heap.size) 0 rfl cs1 _ (HB1.out _ (HK2.out.trans hg)) Tryz.underlying29 rfl (by rw[HL.out.1];exact AD) ?_;exact⟨rfl,Sa _⟩
     refine A4 (by kernel_rfl) (fun w' hg=>?_) ?_
     ·go_simp;exact Sa _
     refine A4 (by kernel_rfl) (fun w' hg=>?_) ?_
     ·go_simp;(with_reducible refine(CE e1 1 cs1 _ _ (HE1.out _ (HG.out.trans (HK2.out.trans hg))):Calls _ _ _ _ _).mono ?_);rintro e wq ⟨rfl,kq⟩;exact⟨by rw[hq1];try rfl,kq⟩
     refine A4 (by kernel_rfl) (fun w' hg=>?_) ?_
     ·go_simp;exact Sa _
     exact AQ
    case sT=>
     intro w9 hg9;simp only[List.toList_toArray,List.append_eq,List.cons_append,List.nil_append,AI,Act.put,List.setIfInBounds_toArray,List.set_cons_zero,List.set_cons_succ];have HK3:=S9 (HK2.out.trans hg9);go_wp2_with(first|((with_reducible refine AG 29 (.tmp 5) rfl ?_);refine wpList_load_mid rfl 29 (.tmp 5) rfl (w.heap.size+1) 0 rfl cs2 _ (HB2.out _ HK3.out) Tryz.underlying29 rfl (by rw[HL.out.2];exact AD) ?_)|((with_reducible refine AF 29 (.tmp 6) (.tmp 30) rfl ?_);refine Ar 29 (.tmp 6) (.tmp 30) (w.heap.size+1+1) cs2 (AH 0 0) 29 (by rw[HL.out.2];exact AD) (by rw[HL.out.2];rfl) HO.out.2 rfl rfl rfl rfl (HB3.out.grew HK3.out) ?_;intro w8 hb8 k8 d8)|((with_reducible refine AF 29 (.tmp 6) (.tmp 31) rfl ?_);refine Ar 29 (.tmp 6) (.tmp 31) (w.heap.size+1+1) (AH 0 0) (AH 0 0) 29 AD rfl (AX _ _) rfl rfl rfl rfl (HB3.out.grew HK3.out) ?_;intro w8 hb8 k8 d8));refine bodyPost_ret (AR rfl rfl rfl AD Tryz.underlying29 rfl hb8) rfl ?_;exact BC (by unfold Bq;simp[hq2,hq1]) (HG.out.trans HK3.out) k8
   refine AK [(.int .i64 2),.bool false,.bool false,(.int .i64 2),.bool true,.bool true,.bool true,.agg cs1.toArray,.int .i64 1,.bool true,.bool true] _ (by kernel_rfl) (by kernel_rfl) rfl ?sH ?sT
   case sH=>
    simp only[List.toList_toArray,List.append_eq,List.cons_append,List.nil_append,AI,Act.put,List.setIfInBounds_toArray,List.set_cons_zero,List.set_cons_succ];refine A4 (by kernel_rfl) (fun w' hg=>?_) ?_
    ·go_simp;exact Sa _
    refine A4 (by kernel_rfl) (fun w' hg=>?_) ?_
    ·go_simp;first|done|exact Sa _|exact⟨HF.out.2.2,Sa _⟩|exact⟨HF.out.1,Sa _⟩
    refine A4 (by kernel_rfl) (fun w' hg=>?_) ?_
    ·go_simp;exact Sa _
    refine A4 (by kernel_rfl) (fun w' hg=>?_) ?_
    ·go_simp;exact Sa _
    refine A4 (by kernel_rfl) (fun w' hg=>?_) ?_
    ·go_simp;first|done|exact Sa _|exact⟨HF.out.2.2,Sa _⟩|exact⟨HF.out.1,Sa _⟩
    refine A4 (by kernel_rfl) (fun w' hg=>?_) ?_
    ·go_simp;exact Sa _
    refine A4 (by kernel_rfl) (fun w' hg=>?_) ?_
    ·go_simp;exact Sa _
    refine A4 (by kernel_rfl) (fun w' hg=>?_) ?_
    ·refine wp_load_mid 29 (.tmp 4) rfl (w.heap.size) 0 rfl cs1 _ (HB1.out _ (HK2.out.trans hg)) Tryz.underlying29 rfl (by rw[HL.out.1];exact AD) ?_;exact⟨rfl,Sa _⟩
    refine A4 (by kernel_rfl) (fun w' hg=>?_) ?_
    ·go_simp;exact Sa _
    refine A4 (by kernel_rfl) (fun w' hg=>?_) ?_
    ·go_simp;(with_reducible refine(CE e1 1 cs1 _ _ (HE1.out _ (HG.out.trans (HK2.out.trans hg))):Calls _ _ _ _ _).mono ?_);rintro e wq ⟨rfl,kq⟩;exact⟨by rw[hq1];try rfl,kq⟩
    refine A4 (by kernel_rfl) (fun w' hg=>?_) ?_
    ·go_simp;exact Sa _
    exact AQ
   case sT=>
    intro w9 hg9;simp only[List.toList_toArray,List.append_eq,List.cons_append,List.nil_append,AI,Act.put,List.setIfInBounds_toArray,List.set_cons_zero,List.set_cons_succ];have HK3:=S9 (HK2.out.trans hg9);go_wp2_with(first|((with_reducible refine AG 29 (.tmp 5) rfl ?_);refine wpList_load_mid rfl 29 (.tmp 5) rfl (w.heap.size+1) 0 rfl cs2 _ (HB2.out _ HK3.out) Tryz.underlying29 rfl (by rw[HL.out.2];exact AD) ?_)|((with_reducible refine AF 29 (.tmp 6) (.tmp 30) rfl ?_);refine Ar 29 (.tmp 6) (.tmp 30) (w.heap.size+1+1) cs2 (AH 0 0) 29 (by rw[HL.out.2];exact AD) (by rw[HL.out.2];rfl) HO.out.2 rfl rfl rfl rfl (HB3.out.grew HK3.out) ?_;intro w8 hb8 k8 d8)|((with_reducible refine AF 29 (.tmp 6) (.tmp 31) rfl ?_);refine Ar 29 (.tmp 6) (.tmp 31) (w.heap.size+1+1) (AH 0 0) (AH 0 0) 29 AD rfl (AX _ _) rfl rfl rfl rfl (HB3.out.grew HK3.out) ?_;intro w8 hb8 k8 d8));refine bodyPost_ret (AR rfl rfl rfl (by rw[HL.out.2];exact AD) Tryz.underlying29 rfl hb8) rfl ?_;exact Cs (by unfold Bq;simp[hq2,hq1]) HQ.out (HR2.out _ (Sa _)) (HG.out.trans HK3.out) k8
  go_wp2_with(first|((with_reducible refine AG 29 (.tmp 5) rfl ?_);refine wpList_load_mid rfl 29 (.tmp 5) rfl (w.heap.size+1) 0 rfl cs2 _ (HB2.out _ HK.out) Tryz.underlying29 rfl (by rw[HL.out.2];exact AD) ?_)|(go_at_call 85;(with_reducible refine(CE e2 1 cs2 _ _ (HE2.out _ (HG.out.trans HK.out)):Calls _ _ _ _ _).mono ?_);rintro e3 w2 ⟨hret,k2⟩;rw[hq2]at hret;subst hret;have HK2:=S9 (HK.out.trans k2);clear k2)|((with_reducible refine AG 29 (.tmp 4) rfl ?_);refine wpList_load_mid rfl 29 (.tmp 4) rfl (w.heap.size) 0 rfl cs1 _ (HB1.out _ HK2.out) Tryz.underlying29 rfl (by rw[HL.out.1];exact AD) ?_)|((with_reducible refine AF 29 (.tmp 6) (.tmp 18) rfl ?_);refine Ar 29 (.tmp 6) (.tmp 18) (w.heap.size+1+1) cs1 (AH 0 0) 29 (by rw[HL.out.1];exact AD) (by rw[HL.out.1];rfl) HO.out.1 rfl rfl rfl rfl (HB3.out.grew HK2.out) ?_;intro w8 hb8 k8 d8));refine bodyPost_ret (AR rfl rfl rfl (by rw[HL.out.1];exact AD) Tryz.underlying29 rfl hb8) rfl ?_;exact Cs (by unfold Bq;simp[hq2,hq1]) HQ.out (HR1.out _ (Sa _)) (HG.out.trans HK2.out) k8
 have t2:(f==2)=false:=by rw[SA];exact f2
 by_cases f3:f=3
 ·subst f3;obtain⟨q2,hq2⟩:∃q,Gw e2 1=q:=⟨_,rfl⟩;obtain⟨q1,hq1⟩:∃q,Gw e1 1=q:=⟨_,rfl⟩;go_upto_region 4 with fail;rcases q2 with _|_
  ·go_upto_region 6 with(first|((with_reducible refine AG 29 (.tmp 5) rfl ?_);refine wpList_load_mid rfl 29 (.tmp 5) rfl (w.heap.size+1) 0 rfl cs2 _ (HB2.out _ HK.out) Tryz.underlying29 rfl (by rw[HL.out.2];exact AD) ?_)|(go_at_call 85;(with_reducible refine(CE e2 1 cs2 _ _ (HE2.out _ (HG.out.trans HK.out)):Calls _ _ _ _ _).mono ?_);rintro e3 w2 ⟨hret,k2⟩;rw[hq2]at hret;subst hret;have HK2:=S9 (HK.out.trans k2);clear k2));refine AK [(.int .i64 3),.bool false,.bool false,(.int .i64 3),.bool false,.bool false,.bool false,undef,undef,undef,.bool false] _ (by kernel_rfl) (by kernel_rfl) rfl ?sH ?sT
   case sH=>
    simp only[List.toList_toArray,List.append_eq,List.cons_append,List.nil_append,AI,Act.put,List.setIfInBounds_toArray,List.set_cons_zero,List.set_cons_succ];refine A4 (by kernel_rfl) (fun w' hg=>?_) ?_
    ·go_simp;exact Sa _
    refine A4 (by kernel_rfl) (fun w' hg=>?_) ?_
    ·go_simp;first|done|exact Sa _|exact⟨HF.out.2.2,Sa _⟩|exact⟨HF.out.1,Sa _⟩
    refine A4 (by kernel_rfl) (fun w' hg=>?_) ?_
    ·go_simp;exact Sa _
    refine A4 (by kernel_rfl) (fun w' hg=>?_) ?_
    ·go_simp;exact Sa _
    refine A4 (by kernel_rfl) (fun w' hg=>?_) ?_
    ·go_simp;first|done|exact Sa _|exact⟨HF.out.2.2,Sa _⟩|exact⟨HF.out.1,Sa _⟩
    refine A4 (by kernel_rfl) (fun w' hg=>?_) ?_
    ·go_simp;exact Sa _
    refine A4 (by kernel_rfl) (fun w' hg=>?_) ?_
    ·go_simp;exact Sa _
    refine AA (by kernel_rfl) (by kernel_rfl) ?_;refine AA (by kernel_rfl) (by kernel_rfl) ?_;refine AA (by kernel_rfl) (by kernel_rfl) ?_;refine A4 (by kernel_rfl) (fun w' hg=>?_) ?_
    ·go_simp;exact Sa _
    exact AQ
   case sT=>
    intro w9 hg9;simp only[List.toList_toArray,List.append_eq,List.cons_append,List.nil_append,AI,Act.put,List.setIfInBounds_toArray,List.set_cons_zero,List.set_cons_succ];have HK3:=S9 (HK2.out.trans hg9);go_wp2_with(((with_reducible refine AF 29 (.tmp 6) (.tmp 31) rfl ?_);refine Ar 29 (.tmp 6) (.tmp 31) (w.heap.size+1+1) (AH 0 0) (AH 0 0) 29 AD rfl (AX _ _) rfl rfl rfl rfl (HB3.out.grew HK3.out) ?_;intro w8 hb8 k8 d8));refine bodyPost_ret (AR rfl rfl rfl AD Tryz.underlying29 rfl hb8) rfl ?_;exact BC (by unfold Bq;simp[hq2,hq1]) (HG.out.trans HK3.out) k8
  go_wp2_with(first|((with_reducible refine AG 29 (.tmp 5) rfl ?_);refine wpList_load_mid rfl 29 (.tmp 5) rfl (w.heap.size+1) 0 rfl cs2 _ (HB2.out _ HK.out) Tryz.underlying29 rfl (by rw[HL.out.2];exact AD) ?_)|(go_at_call 85;(with_reducible refine(CE e2 1 cs2 _ _ (HE2.out _ (HG.out.trans HK.out)):Calls _ _ _ _ _).mono ?_);rintro e3 w2 ⟨hret,k2⟩;rw[hq2]at hret;subst hret;have HK2:=S9 (HK.out.trans k2);clear k2)|((with_reducible refine AG 29 (.tmp 4) rfl ?_);refine wpList_load_mid rfl 29 (.tmp 4) rfl (w.heap.size) 0 rfl cs1 _ (HB1.out _ HK2.out) Tryz.underlying29 rfl (by rw[HL.out.1];exact AD) ?_)|((with_reducible refine AF 29 (.tmp 6) (.tmp 18) rfl ?_);refine Ar 29 (.tmp 6) (.tmp 18) (w.heap.size+1+1) cs1 (AH 0 0) 29 (by rw[HL.out.1];exact AD) (by rw[HL.out.1];rfl) HO.out.1 rfl rfl rfl rfl (HB3.out.grew HK2.out) ?_;intro w8 hb8 k8 d8));refine bodyPost_ret (AR rfl rfl rfl (by rw[HL.out.1];exact AD) Tryz.underlying29 rfl hb8) rfl ?_;exact Cs (by unfold Bq;simp[hq2,hq1]) HQ.out (HR1.out _ (Sa _)) (HG.out.trans HK2.out) k8
 have t3:(f==3)=false:=by rw[SA];exact f3
 by_cases f0:f=0
 ·subst f0;obtain⟨q2,hq2⟩:∃q,Gw e2 0=q:=⟨_,rfl⟩;obtain⟨q1,hq1⟩:∃q,Gw e1 0=q:=⟨_,rfl⟩;go_upto_region 4 with fail;rcases q2 with _|_
  ·go_upto_region 6 with(first|((with_reducible refine AG 29 (.tmp 5) rfl ?_);refine wpList_load_mid rfl 29 (.tmp 5) rfl (w.heap.size+1) 0 rfl cs2 _ (HB2.out _ HK.out) Tryz.underlying29 rfl (by rw[HL.out.2];exact AD) ?_)|(go_at_call 85;(with_reducible refine(CE e2 0 cs2 _ _ (HE2.out _ (HG.out.trans HK.out)):Calls _ _ _ _ _).mono ?_);rintro e3 w2 ⟨hret,k2⟩;rw[hq2]at hret;subst hret;have HK2:=S9 (HK.out.trans k2);clear k2));rcases q1 with _|_
   ·refine AK [(.int .i64 0),.bool true,.bool true,undef,undef,.bool true,.bool true,.agg cs1.toArray,.int .i64 0,.bool false,.bool false] _ (by kernel_rfl) (by kernel_rfl) rfl ?sH ?sT
    case sH=>
     simp only[List.toList_toArray,List.append_eq,List.cons_append,List.nil_append,AI,Act.put,List.setIfInBounds_toArray,List.set_cons_zero,List.set_cons_succ];refine A4 (by kernel_rfl) (fun w' hg=>?_) ?_
     ·go_simp;exact Sa _
     refine A4 (by kernel_rfl) (fun w' hg=>?_) ?_
     ·go_simp;first|done|exact Sa _|exact⟨HF.out.2.2,Sa _⟩|exact⟨HF.out.1,Sa _⟩
     refine A4 (by kernel_rfl) (fun w' hg=>?_) ?_
     ·go_simp;exact Sa _
     refine AA (by kernel_rfl) (by kernel_rfl) ?_;refine AA (by kernel_rfl) (by kernel_rfl) ?_;refine A4 (by kernel_rfl) (fun w' hg=>?_) ?_
     ·go_simp;exact Sa _
     refine A4 (by kernel_rfl) (fun w' hg=>?_) ?_
     ·go_simp;exact Sa _
     refine A4 (by kernel_rfl) (fun w' hg=>?_) ?_
     ·refine wp_load_mid 29 (.tmp 4) rfl (w.heap.size) 0 rfl cs1 _ (HB1.out _ (HK2.out.trans hg)) Tryz.underlying29 rfl (by rw[HL.out.1];exact AD) ?_;exact⟨rfl,Sa _⟩
     refine A4 (by kernel_rfl) (fun w' hg=>?_) ?_
     ·go_simp;exact Sa _
     refine A4 (by kernel_rfl) (fun w' hg=>?_) ?_
     ·go_simp;(with_reducible refine(CE e1 0 cs1 _ _ (HE1.out _ (HG.out.trans (HK2.out.trans hg))):Calls _ _ _ _ _).mono ?_);rintro e wq ⟨rfl,kq⟩;exact⟨by rw[hq1];try rfl,kq⟩
     refine A4 (by kernel_rfl) (fun w' hg=>?_) ?_
     ·go_simp;exact Sa _
     exact AQ
    case sT=>
     intro w9 hg9;simp only[List.toList_toArray,List.append_eq,List.cons_append,List.nil_append,AI,Act.put,List.setIfInBounds_toArray,List.set_cons_zero,List.set_cons_succ];have HK3:=S9 (HK2.out.trans hg9);go_wp2_with(first|((with_reducible refine AG 29 (.tmp 5) rfl ?_);refine wpList_load_mid rfl 29 (.tmp 5) rfl (w.heap.size+1) 0 rfl cs2 _ (HB2.out _ HK3.out) Tryz.underlying29 rfl (by rw[HL.out.2];exact AD) ?_)|((with_reducible refine AF 29 (.tmp 6) (.tmp 30) rfl ?_);refine Ar 29 (.tmp 6) (.tmp 30) (w.heap.size+1+1) cs2 (AH 0 0) 29 (by rw[HL.out.2];exact AD) (by rw[HL.out.2];rfl) HO.out.2 rfl rfl rfl rfl (HB3.out.grew HK3.out) ?_;intro w8 hb8 k8 d8)|((with_reducible refine AF 29 (.tmp 6) (.tmp 31) rfl ?_);refine Ar 29 (.tmp 6) (.tmp 31) (w.heap.size+1+1) (AH 0 0) (AH 0 0) 29 AD rfl (AX _ _) rfl rfl rfl rfl (HB3.out.grew HK3.out) ?_;intro w8 hb8 k8 d8));refine bodyPost_ret (AR rfl rfl rfl AD Tryz.underlying29 rfl hb8) rfl ?_;exact BC (by unfold Bq;simp[hq2,hq1]) (HG.out.trans HK3.out) k8
   refine AK [(.int .i64 0),.bool true,.bool true,undef,undef,.bool true,.bool true,.agg cs1.toArray,.int .i64 0,.bool true,.bool true] _ (by kernel_rfl) (by kernel_rfl) rfl ?sH ?sT
   case sH=>
    simp only[List.toList_toArray,List.append_eq,List.cons_append,List.nil_append,AI,Act.put,List.setIfInBounds_toArray,List.set_cons_zero,List.set_cons_succ];refine A4 (by kernel_rfl) (fun w' hg=>?_) ?_
    ·go_simp;exact Sa _
    refine A4 (by kernel_rfl) (fun w' hg=>?_) ?_
    ·go_simp;first|done|exact Sa _|exact⟨HF.out.2.2,Sa _⟩|exact⟨HF.out.1,Sa _⟩
    refine A4 (by kernel_rfl) (fun w' hg=>?_) ?_
    ·go_simp;exact Sa _
    refine AA (by kernel_rfl) (by kernel_rfl) ?_;refine AA (by kernel_rfl) (by kernel_rfl) ?_;refine A4 (by kernel_rfl) (fun w' hg=>?_) ?_
    ·go_simp;exact Sa _
    refine A4 (by kernel_rfl) (fun w' hg=>?_) ?_
    ·go_simp;exact Sa _
    refine A4 (by kernel_rfl) (fun w' hg=>?_) ?_
    ·refine wp_load_mid 29 (.tmp 4) rfl (w.heap.size) 0 rfl cs1 _ (HB1.out _ (HK2.out.trans hg)) Tryz.underlying29 rfl (by rw[HL.out.1];exact AD) ?_;exact⟨rfl,Sa _⟩
    refine A4 (by kernel_rfl) (fun w' hg=>?_) ?_
    ·go_simp;exact Sa _
    refine A4 (by kernel_rfl) (fun w' hg=>?_) ?_
    ·go_simp;(with_reducible refine(CE e1 0 cs1 _ _ (HE1.out _ (HG.out.trans (HK2.out.trans hg))):Calls _ _ _ _ _).mono ?_);rintro e wq ⟨rfl,kq⟩;exact⟨by rw[hq1];try rfl,kq⟩
    refine A4 (by kernel_rfl) (fun w' hg=>?_) ?_
    ·go_simp;exact Sa _
    exact AQ
   case sT=>
    intro w9 hg9;simp only[List.toList_toArray,List.append_eq,List.cons_append,List.nil_append,AI,Act.put,List.setIfInBounds_toArray,List.set_cons_zero,List.set_cons_succ];have HK3:=S9 (HK2.out.trans hg9);go_wp2_with(first|((with_reducible refine AG 29 (.tmp 5) rfl ?_);refine wpList_load_mid rfl 29 (.tmp 5) rfl (w.heap.size+1) 0 rfl cs2 _ (HB2.out _ HK3.out) Tryz.underlying29 rfl (by rw[HL.out.2];exact AD) ?_)|((with_reducible refine AF 29 (.tmp 6) (.tmp 30) rfl ?_);refine Ar 29 (.tmp 6) (.tmp 30) (w.heap.size+1+1) cs2 (AH 0 0) 29 (by rw[HL.out.2];exact AD) (by rw[HL.out.2];rfl) HO.out.2 rfl rfl rfl rfl (HB3.out.grew HK3.out) ?_;intro w8 hb8 k8 d8)|((with_reducible refine AF 29 (.tmp 6) (.tmp 31) rfl ?_);refine Ar 29 (.tmp 6) (.tmp 31) (w.heap.size+1+1) (AH 0 0) (AH 0 0) 29 AD rfl (AX _ _) rfl rfl rfl rfl (HB3.out.grew HK3.out) ?_;intro w8 hb8 k8 d8));refine bodyPost_ret (AR rfl rfl rfl (by rw[HL.out.2];exact AD) Tryz.underlying29 rfl hb8) rfl ?_;exact Cs (by unfold Bq;simp[hq2,hq1]) HQ.out (HR2.out _ (Sa _)) (HG.out.trans HK3.out) k8
  go_wp2_with(first|((with_reducible refine AG 29 (.tmp 5) rfl ?_);refine wpList_load_mid rfl 29 (.tmp 5) rfl (w.heap.size+1) 0 rfl cs2 _ (HB2.out _ HK.out) Tryz.underlying29 rfl (by rw[HL.out.2];exact AD) ?_)|(go_at_call 85;(with_reducible refine(CE e2 0 cs2 _ _ (HE2.out _ (HG.out.trans HK.out)):Calls _ _ _ _ _).mono ?_);rintro e3 w2 ⟨hret,k2⟩;rw[hq2]at hret;subst hret;have HK2:=S9 (HK.out.trans k2);clear k2)|((with_reducible refine AG 29 (.tmp 4) rfl ?_);refine wpList_load_mid rfl 29 (.tmp 4) rfl (w.heap.size) 0 rfl cs1 _ (HB1.out _ HK2.out) Tryz.underlying29 rfl (by rw[HL.out.1];exact AD) ?_)|((with_reducible refine AF 29 (.tmp 6) (.tmp 18) rfl ?_);refine Ar 29 (.tmp 6) (.tmp 18) (w.heap.size+1+1) cs1 (AH 0 0) 29 (by rw[HL.out.1];exact AD) (by rw[HL.out.1];rfl) HO.out.1 rfl rfl rfl rfl (HB3.out.grew HK2.out) ?_;intro w8 hb8 k8 d8));refine bodyPost_ret (AR rfl rfl rfl (by rw[HL.out.1];exact AD) Tryz.underlying29 rfl hb8) rfl ?_;exact Cs (by unfold Bq;simp[hq2,hq1]) HQ.out (HR1.out _ (Sa _)) (HG.out.trans HK2.out) k8
 have t0:(f==0)=false:=by rw[SA];exact f0
 have HF:=S9 (SC f2 (SC f3 f0));clear f2 f3 f0;obtain⟨q2,hq2⟩:∃q,Gw e2 0=q:=⟨_,rfl⟩;obtain⟨q1,hq1⟩:∃q,Gw e1 0=q:=⟨_,rfl⟩;go_upto_region 4 with fail;rcases q2 with _|_
 ·go_upto_region 6 with(first|((with_reducible refine AG 29 (.tmp 5) rfl ?_);refine wpList_load_mid rfl 29 (.tmp 5) rfl (w.heap.size+1) 0 rfl cs2 _ (HB2.out _ HK.out) Tryz.underlying29 rfl (by rw[HL.out.2];exact AD) ?_)|(go_at_call 85;(with_reducible refine(CE e2 0 cs2 _ _ (HE2.out _ (HG.out.trans HK.out)):Calls _ _ _ _ _).mono ?_);rintro e3 w2 ⟨hret,k2⟩;rw[hq2]at hret;subst hret;have HK2:=S9 (HK.out.trans k2);clear k2));refine AK [(.int .i64 f),.bool false,.bool false,(.int .i64 f),.bool false,.bool false,.bool false,undef,undef,undef,.bool false] _ (by kernel_rfl) (by kernel_rfl) rfl ?sH ?sT
  case sH=>
   simp only[List.toList_toArray,List.append_eq,List.cons_append,List.nil_append,AI,Act.put,List.setIfInBounds_toArray,List.set_cons_zero,List.set_cons_succ];refine A4 (by kernel_rfl) (fun w' hg=>?_) ?_
   ·go_simp;exact Sa _
   refine A4 (by kernel_rfl) (fun w' hg=>?_) ?_
   ·go_simp;first|done|exact Sa _|exact⟨HF.out.2.2,Sa _⟩|exact⟨HF.out.1,Sa _⟩
   refine A4 (by kernel_rfl) (fun w' hg=>?_) ?_
   ·go_simp;exact Sa _
   refine A4 (by kernel_rfl) (fun w' hg=>?_) ?_
   ·go_simp;exact Sa _
   refine A4 (by kernel_rfl) (fun w' hg=>?_) ?_
   ·go_simp;first|done|exact Sa _|exact⟨HF.out.2.2,Sa _⟩|exact⟨HF.out.1,Sa _⟩
   refine A4 (by kernel_rfl) (fun w' hg=>?_) ?_
   ·go_simp;exact Sa _
   refine A4 (by kernel_rfl) (fun w' hg=>?_) ?_
   ·go_simp;exact Sa _
   refine AA (by kernel_rfl) (by kernel_rfl) ?_;refine AA (by kernel_rfl) (by kernel_rfl) ?_;refine AA (by kernel_rfl) (by kernel_rfl) ?_;refine A4 (by kernel_rfl) (fun w' hg=>?_) ?_
   ·go_simp;exact Sa _
   exact AQ
  case sT=>
   intro w9 hg9;simp only[List.toList_toArray,List.append_eq,List.cons_append,List.nil_append,AI,Act.put,List.setIfInBounds_toArray,List.set_cons_zero,List.set_cons_succ];have HK3:=S9 (HK2.out.trans hg9);go_wp2_with(((with_reducible refine AF 29 (.tmp 6) (.tmp 31) rfl ?_);refine Ar 29 (.tmp 6) (.tmp 31) (w.heap.size+1+1) (AH 0 0) (AH 0 0) 29 AD rfl (AX _ _) rfl rfl rfl rfl (HB3.out.grew HK3.out) ?_;intro w8 hb8 k8 d8));refine bodyPost_ret (AR rfl rfl rfl AD Tryz.underlying29 rfl hb8) rfl ?_;exact BC (by unfold Bq;simp[HF.out.1,HF.out.2.1,HF.out.2.2,hq2,hq1]) (HG.out.trans HK3.out) k8
 go_wp2_with(first|((with_reducible refine AG 29 (.tmp 5) rfl ?_);refine wpList_load_mid rfl 29 (.tmp 5) rfl (w.heap.size+1) 0 rfl cs2 _ (HB2.out _ HK.out) Tryz.underlying29 rfl (by rw[HL.out.2];exact AD) ?_)|(go_at_call 85;(with_reducible refine(CE e2 0 cs2 _ _ (HE2.out _ (HG.out.trans HK.out)):Calls _ _ _ _ _).mono ?_);rintro e3 w2 ⟨hret,k2⟩;rw[hq2]at hret;subst hret;have HK2:=S9 (HK.out.trans k2);clear k2)|((with_reducible refine AG 29 (.tmp 4) rfl ?_);refine wpList_load_mid rfl 29 (.tmp 4) rfl (w.heap.size) 0 rfl cs1 _ (HB1.out _ HK2.out) Tryz.underlying29 rfl (by rw[HL.out.1];exact AD) ?_)|((with_reducible refine AF 29 (.tmp 6) (.tmp 18) rfl ?_);refine Ar 29 (.tmp 6) (.tmp 18) (w.heap.size+1+1) cs1 (AH 0 0) 29 (by rw[HL.out.1];exact AD) (by rw[HL.out.1];rfl) HO.out.1 rfl rfl rfl rfl (HB3.out.grew HK2.out) ?_;intro w8 hb8 k8 d8));refine bodyPost_ret (AR rfl rfl rfl (by rw[HL.out.1];exact AD) Tryz.underlying29 rfl hb8) rfl ?_;exact Cs (by unfold Bq;simp[HF.out.1,HF.out.2.1,HF.out.2.2,hq2,hq1]) HQ.out (HR1.out _ (Sa _)) (HG.out.trans HK2.out) k8
end Go.Proofs.YthpflelgbadkcaaGreatDoor
