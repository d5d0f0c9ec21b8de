/- package rewrite: sameRows and the closures of the rules. -/
import Derived.Test.YtcimmbhdcebehaaGreatDoorRewriteNumbersP01
import Derived.Test.YtcimmbhdcebehaaGreatDoorRewriteNumbersP26
import Derived.Test.YtcimmbhdcebehaaGreatDoorRewriteNumbersP27
set_option maxRecDepth 100000
set_option maxHeartbeats 12800000
set_option linter.unusedVariables false
set_option linter.unusedSimpArgs false
namespace Go.Proofs.YtcimmbhdcebehaaGreatDoor
open Go.RowKit Pl
def RwOk (e:Ex):Prop:=AllE SrcN e∧tidyE e∧nodesE e≤1000000
theorem RwOk.kid {e k:Ex} (h:RwOk e) (hk:k∈e.kids):RwOk k:=⟨h.1.kid hk,tidy_kids h.2.1 hk,by have:=nodesKs_mem hk;have:=nodes_eq e;have:=h.2.2;omega⟩
theorem RwOk.two3 {e:Ex} (h:RwOk e):AllE Two3 e:=h.1.mono (fun _ h=>src_two3 h) (nodesE e) e (Nat.le_refl _)
def sameE (x y:Ex):Bool:=(srcE x).2&&(srcE y).2&&(srcE x).1.toList==(srcE y).1.toList
def csE (x y o:Ex):Bool:=eqE y o&&(rowE y||sameE x y)
def cpE (c o:Ex):Bool:=decide (c.kind=0)&& !isE c 0&&eqE c o
theorem RwEqual {x y:Ex} (hx:RwOk x) (hy:RwOk y) {w:World} {csx csy:List Value} (hrx:RdE w w.heap.size x csx) (hry:RdE w w.heap.size y csy):
  Calls Tryz.prog 9 #[.agg csx.toArray,.agg csy.toArray] w fun e' w'=>e'= .returned (.bool (eqE x y))∧Grew w w':=peq_any 1000000 x y hx.2.2 hy.2.2 (Nat.le_refl _) hx.2.1 hy.2.1 w csx csy hrx hry
theorem RwRow {x:Ex} (hx:RwOk x) {w:World} {csx:List Value} (hrx:RdE w w.heap.size x csx):
  Calls Tryz.prog 83 #[.agg csx.toArray] w fun e' w'=>e'= .returned (.bool (rowE x))∧Grew w w':=rowless_any (nodesE x) x (Nat.le_refl _) hx.two3 w csx hrx
theorem same_any {x y:Ex} (hx:RwOk x) (hy:RwOk y) {w:World} {csx csy:List Value} (hwt:WTab w) (hot:OTab w) (hrx:RdE w w.heap.size x csx) (hry:RdE w w.heap.size y csy):
  Calls Tryz.prog 84 #[.agg csx.toArray,.agg csy.toArray] w fun e' w'=>e'= .returned (.bool (sameE x y))∧Grew w w':=by
 obtain⟨hb1,hb2,hG⟩:=boxes2 w 34 34 csx.toArray csy.toArray;have HA:=Lib.hid (fun w' (g:Grew w w')=>source_any (nodesE x) x (Nat.le_refl _) hx.1 w' csx (hwt.grew g) (hot.keep g (fun h=>h)) (hrx.grew g));have HB:=Lib.hid (fun w' (g:Grew w w')=>source_any (nodesE y) y (Nat.le_refl _) hy.1 w' csy (hwt.grew g) (hot.keep g (fun h=>h)) (hry.grew g));have HL:=Lib.hid (And.intro (rdE_len hrx) (rdE_len hry));obtain⟨r,hr⟩:∃r,sameE x y=r:=⟨_,rfl⟩;rw[hr];unfold sameE at hr;obtain⟨⟨la,ka⟩,hsa⟩:∃p,srcE x=p:=⟨_,rfl⟩;obtain⟨⟨lb,kb⟩,hsb⟩:∃p,srcE y=p:=⟨_,rfl⟩;rw[hsa,hsb]at hr;rw[hsa]at HA;rw[hsb]at HB;dsimp only at hr HA HB;have HR:=Lib.hid hr;clear hx hy hwt hot hrx hry hsa hsb hr;go_enter Tryz.func84,Tryz.ntmps84;go_upto_region 1 with fail;change Code.wp _ _ _ _ ((w.alloc (.cells csx.toArray 34)).alloc (.cells csy.toArray 34));generalize (w.alloc (.cells csx.toArray 34)).alloc (.cells csy.toArray 34)=w1 at*;have H0:=Lib.hid hG;have HG:=Lib.hid (Grew.refl w1);have HB1:=Lib.hid hb1;have HB2:=Lib.hid hb2;have HB1R:=Lib.hid (show ∀w',Grew w1 w'→w'.rangeAt w.heap.size 0 csx from fun w' g=>(hb1.grew g).rangeN 0 _ (by simp));have HB2R:=Lib.hid (show ∀w',Grew w1 w'→w'.rangeAt (w.heap.size+1) 0 csy from fun w' g=>(hb2.grew g).rangeN 0 _ (by simp));clear hb1 hb2 hG;go_upto_region 3 with(first|((with_reducible refine at_load 34 (.tmp 2) rfl ?_);refine wpList_load_mid rfl 34 (.tmp 2) rfl (w.heap.size) 0 rfl csx _ (HB1R.out _ HG.out) Tryz.underlying34 rfl (by rw[HL.out.1];exact infoX) ?_)|(go_at_call 104;(with_reducible refine(HA.out _ (H0.out.trans HG.out)).mono ?_);rintro e3 w2 ⟨rfl,k2⟩;have HG2:=Lib.hid (HG.out.trans k2);clear k2)|((with_reducible refine at_load 34 (.tmp 3) rfl ?_);refine wpList_load_mid rfl 34 (.tmp 3) rfl (w.heap.size+1) 0 rfl csy _ (HB2R.out _ HG2.out) Tryz.underlying34 rfl (by rw[HL.out.2];exact infoX) ?_)|(go_at_call 104;(with_reducible refine(HB.out _ (H0.out.trans HG2.out)).mono ?_);rintro e3 w3 ⟨rfl,k2⟩;have HG3:=Lib.hid (HG2.out.trans k2);clear k2));have hr:=HR.out;clear HR HA HB;rcases ka with _|_
 ·have h9:r=false:=by rw[←hr];rfl
  subst h9;clear hr;go_wp2_with fail;go_ret;exact⟨rfl,H0.out.trans HG3.out⟩
 rcases kb with _|_
 ·have h9:r=false:=by rw[←hr];rfl
  subst h9;clear hr;go_wp2_with fail;go_ret;exact⟨rfl,H0.out.trans HG3.out⟩
 have hz:(la.toList==lb.toList)=r:=by rw[←hr];rfl
 clear hr;rcases r with _|_
 ·go_wp2_with fail;go_ret;exact⟨rfl,H0.out.trans HG3.out⟩
 go_wp2_with fail;go_ret;exact⟨rfl,H0.out.trans HG3.out⟩
theorem cs1_any {x y o:Ex} (hx:RwOk x) (hy:RwOk y) (ho:RwOk o) {w:World} {csx csy cso:List Value} (hwt:WTab w) (hot:OTab w) (hrx:RdE w w.heap.size x csx) (hry:RdE w w.heap.size y csy) (hro:RdE w w.heap.size o cso):
  Calls Tryz.prog 82 #[.agg csx.toArray,.agg csy.toArray,.agg cso.toArray] w fun e' w'=>e'= .returned (.bool (csE x y o))∧Grew w w':=by
 obtain⟨hb1,hb2,hb3,hG⟩:=boxes3 w 34 34 34 csx.toArray csy.toArray cso.toArray;have HA:=Lib.hid (fun w' (g:Grew w w')=>RwEqual hy ho (hry.grew g) (hro.grew g));have HB:=Lib.hid (fun w' (g:Grew w w')=>RwRow hy (hry.grew g));have HC:=Lib.hid (fun w' (g:Grew w w')=>same_any hx hy (hwt.grew g) (hot.keep g (fun h=>h)) (hrx.grew g) (hry.grew g));have HLx:=Lib.hid (rdE_len hrx);have HLy:=Lib.hid (rdE_len hry);have HLo:=Lib.hid (rdE_len hro);have hF:csE x y o=(eqE y o&&(rowE y||sameE x y)):=rfl;obtain⟨p,hp⟩:∃r,eqE y o=r:=⟨_,rfl⟩;obtain⟨q,hq⟩:∃r,rowE y=r:=⟨_,rfl⟩;obtain⟨r,hr⟩:∃r,sameE x y=r:=⟨_,rfl⟩;rw[hF,hp,hq,hr];rw[hp]at HA;rw[hq]at HB;rw[hr]at HC;clear hx hy ho hwt hot hrx hry hro hF hp hq hr;go_enter Tryz.func82,Tryz.ntmps82;go_upto_region 1 with fail;change Code.wp _ _ _ _ (((w.alloc (.cells csx.toArray 34)).alloc (.cells csy.toArray 34)).alloc (.cells cso.toArray 34));generalize ((w.alloc (.cells csx.toArray 34)).alloc (.cells csy.toArray 34)).alloc (.cells cso.toArray 34)=w1 at*;have H0:=Lib.hid hG;have HB1:=Lib.hid hb1;have HB2:=Lib.hid hb2;have HB3:=Lib.hid hb3;clear hb1 hb2 hb3 hG;rcases p with _|_
 ·refine region_seqG [.agg csy.toArray,.agg cso.toArray,.bool false,.bool false,undef,undef,undef,undef,undef,undef,undef,.bool false,.bool false] _ (by kernel_rfl) (by kernel_rfl) rfl ?sH ?sT
  case sH=>
   simp only[List.toList_toArray,List.append_eq,List.cons_append,List.nil_append,putAll,Act.put,List.setIfInBounds_toArray,List.set_cons_zero,List.set_cons_succ];refine headG_run (by kernel_rfl) (fun w' hg=>?_) ?_
   ·refine wp_load_mid 34 (.tmp 4) rfl (w.heap.size+1) 0 rfl csy _ ((HB2.out.grew hg).rangeN 0 _ (by simp)) Tryz.underlying34 rfl (by rw[HLy.out];exact infoX) ?_;exact⟨rfl,Grew.refl _⟩
   refine headG_run (by kernel_rfl) (fun w' hg=>?_) ?_
   ·refine wp_load_mid 34 (.tmp 5) rfl (w.heap.size+1+1) 0 rfl cso _ ((HB3.out.grew hg).rangeN 0 _ (by simp)) Tryz.underlying34 rfl (by rw[HLo.out];exact infoX) ?_;exact⟨rfl,Grew.refl _⟩
   refine headG_run (by kernel_rfl) (fun w' hg=>?_) ?_
   ·go_simp;(with_reducible refine(HA.out _ (H0.out.trans hg)).mono ?_);rintro e wq ⟨rfl,kq⟩;exact⟨rfl,kq⟩
   refine headG_run (by kernel_rfl) (fun w' hg=>?_) ?_
   ·go_simp;exact Grew.refl _
   refine headG_skip (by kernel_rfl) (by kernel_rfl) ?_;refine headG_skip (by kernel_rfl) (by kernel_rfl) ?_;refine headG_skip (by kernel_rfl) (by kernel_rfl) ?_;refine headG_skip (by kernel_rfl) (by kernel_rfl) ?_;refine headG_skip (by kernel_rfl) (by kernel_rfl) ?_;refine headG_skip (by kernel_rfl) (by kernel_rfl) ?_;refine headG_skip (by kernel_rfl) (by kernel_rfl) ?_;refine headG_run (by kernel_rfl) (fun w' hg=>?_) ?_
   ·go_simp;exact Grew.refl _
   refine headG_run (by kernel_rfl) (fun w' hg=>?_) ?_
   ·go_simp;exact Grew.refl _
   exact headG_nil
  case sT=>
   intro w9 hg9;simp only[List.toList_toArray,List.append_eq,List.cons_append,List.nil_append,putAll,Act.put,List.setIfInBounds_toArray,List.set_cons_zero,List.set_cons_succ];go_wp2_with fail;go_ret;exact⟨rfl,H0.out.trans hg9⟩
 rcases q with _|_
 ·refine region_seqG [.agg csy.toArray,.agg cso.toArray,.bool true,.bool true,.agg csy.toArray,.bool false,.bool false,.agg csx.toArray,.agg csy.toArray,.bool r,.bool r,.bool r,.bool r] _ (by kernel_rfl) (by kernel_rfl) rfl ?sH ?sT
  case sH=>
   simp only[List.toList_toArray,List.append_eq,List.cons_append,List.nil_append,putAll,Act.put,List.setIfInBounds_toArray,List.set_cons_zero,List.set_cons_succ];refine headG_run (by kernel_rfl) (fun w' hg=>?_) ?_
   ·refine wp_load_mid 34 (.tmp 4) rfl (w.heap.size+1) 0 rfl csy _ ((HB2.out.grew hg).rangeN 0 _ (by simp)) Tryz.underlying34 rfl (by rw[HLy.out];exact infoX) ?_;exact⟨rfl,Grew.refl _⟩
   refine headG_run (by kernel_rfl) (fun w' hg=>?_) ?_
   ·refine wp_load_mid 34 (.tmp 5) rfl (w.heap.size+1+1) 0 rfl cso _ ((HB3.out.grew hg).rangeN 0 _ (by simp)) Tryz.underlying34 rfl (by rw[HLo.out];exact infoX) ?_;exact⟨rfl,Grew.refl _⟩
   refine headG_run (by kernel_rfl) (fun w' hg=>?_) ?_
   ·go_simp;(with_reducible refine(HA.out _ (H0.out.trans hg)).mono ?_);rintro e wq ⟨rfl,kq⟩;exact⟨rfl,kq⟩
   refine headG_run (by kernel_rfl) (fun w' hg=>?_) ?_
   ·go_simp;exact Grew.refl _
   refine headG_run (by kernel_rfl) (fun w' hg=>?_) ?_
   ·refine wp_load_mid 34 (.tmp 4) rfl (w.heap.size+1) 0 rfl csy _ ((HB2.out.grew hg).rangeN 0 _ (by simp)) Tryz.underlying34 rfl (by rw[HLy.out];exact infoX) ?_;exact⟨rfl,Grew.refl _⟩
   refine headG_run (by kernel_rfl) (fun w' hg=>?_) ?_
   ·go_simp;(with_reducible refine(HB.out _ (H0.out.trans hg)).mono ?_);rintro e wq ⟨rfl,kq⟩;exact⟨rfl,kq⟩
   refine headG_run (by kernel_rfl) (fun w' hg=>?_) ?_
   ·go_simp;exact Grew.refl _
   refine headG_run (by kernel_rfl) (fun w' hg=>?_) ?_
   ·refine wp_load_mid 34 (.tmp 3) rfl (w.heap.size) 0 rfl csx _ ((HB1.out.grew hg).rangeN 0 _ (by simp)) Tryz.underlying34 rfl (by rw[HLx.out];exact infoX) ?_;exact⟨rfl,Grew.refl _⟩
   refine headG_run (by kernel_rfl) (fun w' hg=>?_) ?_
   ·refine wp_load_mid 34 (.tmp 4) rfl (w.heap.size+1) 0 rfl csy _ ((HB2.out.grew hg).rangeN 0 _ (by simp)) Tryz.underlying34 rfl (by rw[HLy.out];exact infoX) ?_;exact⟨rfl,Grew.refl _⟩
   refine headG_run (by kernel_rfl) (fun w' hg=>?_) ?_
   ·go_simp;(with_reducible refine(HC.out _ (H0.out.trans hg)).mono ?_);rintro e wq ⟨rfl,kq⟩;exact⟨rfl,kq⟩
   refine headG_run (by kernel_rfl) (fun w' hg=>?_) ?_
   ·go_simp;exact Grew.refl _
   refine headG_run (by kernel_rfl) (fun w' hg=>?_) ?_
   ·go_simp;exact Grew.refl _
   refine headG_run (by kernel_rfl) (fun w' hg=>?_) ?_
   ·go_simp;exact Grew.refl _
   exact headG_nil
  case sT=>
   intro w9 hg9;simp only[List.toList_toArray,List.append_eq,List.cons_append,List.nil_append,putAll,Act.put,List.setIfInBounds_toArray,List.set_cons_zero,List.set_cons_succ];go_wp2_with fail;go_ret;exact⟨rfl,H0.out.trans hg9⟩
 refine region_seqG [.agg csy.toArray,.agg cso.toArray,.bool true,.bool true,.agg csy.toArray,.bool true,.bool true,undef,undef,undef,.bool true,.bool true,.bool true] _ (by kernel_rfl) (by kernel_rfl) rfl ?sH ?sT
 case sH=>
  simp only[List.toList_toArray,List.append_eq,List.cons_append,List.nil_append,putAll,Act.put,List.setIfInBounds_toArray,List.set_cons_zero,List.set_cons_succ];refine headG_run (by kernel_rfl) (fun w' hg=>?_) ?_
  ·refine wp_load_mid 34 (.tmp 4) rfl (w.heap.size+1) 0 rfl csy _ ((HB2.out.grew hg).rangeN 0 _ (by simp)) Tryz.underlying34 rfl (by rw[HLy.out];exact infoX) ?_;exact⟨rfl,Grew.refl _⟩
  refine headG_run (by kernel_rfl) (fun w' hg=>?_) ?_
  ·refine wp_load_mid 34 (.tmp 5) rfl (w.heap.size+1+1) 0 rfl cso _ ((HB3.out.grew hg).rangeN 0 _ (by simp)) Tryz.underlying34 rfl (by rw[HLo.out];exact infoX) ?_;exact⟨rfl,Grew.refl _⟩
  refine headG_run (by kernel_rfl) (fun w' hg=>?_) ?_
  ·go_simp;(with_reducible refine(HA.out _ (H0.out.trans hg)).mono ?_);rintro e wq ⟨rfl,kq⟩;exact⟨rfl,kq⟩
  refine headG_run (by kernel_rfl) (fun w' hg=>?_) ?_
  ·go_simp;exact Grew.refl _
  refine headG_run (by kernel_rfl) (fun w' hg=>?_) ?_
  ·refine wp_load_mid 34 (.tmp 4) rfl (w.heap.size+1) 0 rfl csy _ ((HB2.out.grew hg).rangeN 0 _ (by simp)) Tryz.underlying34 rfl (by rw[HLy.out];exact infoX) ?_;exact⟨rfl,Grew.refl _⟩
  refine headG_run (by kernel_rfl) (fun w' hg=>?_) ?_
  ·go_simp;(with_reducible refine(HB.out _ (H0.out.trans hg)).mono ?_);rintro e wq ⟨rfl,kq⟩;exact⟨rfl,kq⟩
  refine headG_run (by kernel_rfl) (fun w' hg=>?_) ?_
  ·go_simp;exact Grew.refl _
  refine headG_skip (by kernel_rfl) (by kernel_rfl) ?_;refine headG_skip (by kernel_rfl) (by kernel_rfl) ?_;refine headG_skip (by kernel_rfl) (by kernel_rfl) ?_;refine headG_run (by kernel_rfl) (fun w' hg=>?_) ?_
  ·go_simp;exact Grew.refl _
  refine headG_run (by kernel_rfl) (fun w' hg=>?_) ?_
  ·go_simp;exact Grew.refl _
  refine headG_run (by kernel_rfl) (fun w' hg=>?_) ?_
  ·go_simp;exact Grew.refl _
  exact headG_nil
 case sT=>
  intro w9 hg9;simp only[List.toList_toArray,List.append_eq,List.cons_append,List.nil_append,putAll,Act.put,List.setIfInBounds_toArray,List.set_cons_zero,List.set_cons_succ];go_wp2_with fail;go_ret;exact⟨rfl,H0.out.trans hg9⟩
theorem cp1_any {x o:Ex} (hx:RwOk x) (ho:RwOk o) {w:World} {csx cso:List Value} (hrx:RdE w w.heap.size x csx) (hro:RdE w w.heap.size o cso):
  Calls Tryz.prog 86 #[.agg csx.toArray,.agg cso.toArray] w fun e' w'=>e'= .returned (.bool (cpE x o))∧Grew w w':=by
 obtain⟨hb1,hb2,hG⟩:=boxes2 w 34 34 csx.toArray cso.toArray;have HA:=Lib.hid (fun w' (g:Grew w w')=>RwEqual hx ho (hrx.grew g) (hro.grew g));have HB:=Lib.hid (fun w' (g:Grew w w')=>ris_any x 0 csx w' _ (hrx.grew g));have HLx:=Lib.hid (rdE_len hrx);have HLo:=Lib.hid (rdE_len hro);have hF:cpE x o=(decide (x.kind=0)&& !isE x 0&&eqE x o):=rfl;obtain⟨q,hq⟩:∃r,isE x 0=r:=⟨_,rfl⟩;obtain⟨r,hr⟩:∃r,eqE x o=r:=⟨_,rfl⟩;have hc0:csx.toArray[0]? =some (.int .i64 x.kind):=by
  obtain⟨vm,vb,vk,rfl, -⟩:=hrx.open_;rfl
 obtain⟨p,hp⟩:∃r,decide (x.kind=0)=r:=⟨_,rfl⟩;rw[hF,hp,hq,hr];rw[hr]at HA;rw[hq]at HB;clear hx ho hrx hro hF hq hr;go_enter Tryz.func86,Tryz.ntmps86;go_upto_region 1 with fail;change Code.wp _ _ _ _ ((w.alloc (.cells csx.toArray 34)).alloc (.cells cso.toArray 34));generalize (w.alloc (.cells csx.toArray 34)).alloc (.cells cso.toArray 34)=w1 at*;have H0:=Lib.hid hG;have HB1:=Lib.hid hb1;have HB2:=Lib.hid hb2;have HC:=Lib.hid (fun w' (g:Grew w1 w')=>(show w'.cell? ⟨w.heap.size,0,none⟩=some (.int .i64 x.kind)from((hb1.grew g).cell 0).trans hc0));have hpb:(x.kind==0)=p:=by rw[←hp];by_cases h:x.kind=0<;>simp[h]
 have HP:=Lib.hid hpb;clear hb1 hb2 hG hc0 hp hpb;rcases p with _|_
 ·refine region_seqG [.pointer (some ⟨w.heap.size,0,none⟩),.int .i64 x.kind,.bool false,.bool false,undef,undef,undef,.bool false,.bool false,undef,undef,undef,.bool false,.bool false] _ (by kernel_rfl) (by kernel_rfl) rfl ?sH ?sT
  case sH=>
   simp only[List.toList_toArray,List.append_eq,List.cons_append,List.nil_append,putAll,Act.put,List.setIfInBounds_toArray,List.set_cons_zero,List.set_cons_succ];refine headG_run (by kernel_rfl) (fun w' hg=>?_) ?_
   ·go_simp;exact Grew.refl _
   refine headG_run (by kernel_rfl) (fun w' hg=>?_) ?_
   ·have hc:=HC.out w' hg;exact ld_one 3 (.tmp 5) (fun w v h=>by simp[go_sem,h]) rfl (by kernel_rfl) hc ⟨by kernel_rfl,Grew.refl _⟩
   refine headG_run (by kernel_rfl) (fun w' hg=>?_) ?_
   ·go_simp;first|exact⟨beq_eq_false_iff_ne.1 HP.out,Grew.refl _⟩|exact⟨beq_iff_eq.1 HP.out,Grew.refl _⟩
   refine headG_run (by kernel_rfl) (fun w' hg=>?_) ?_
   ·go_simp;exact Grew.refl _
   refine headG_skip (by kernel_rfl) (by kernel_rfl) ?_;refine headG_skip (by kernel_rfl) (by kernel_rfl) ?_;refine headG_skip (by kernel_rfl) (by kernel_rfl) ?_;refine headG_run (by kernel_rfl) (fun w' hg=>?_) ?_
   ·go_simp;exact Grew.refl _
   refine headG_run (by kernel_rfl) (fun w' hg=>?_) ?_
   ·go_simp;exact Grew.refl _
   refine headG_skip (by kernel_rfl) (by kernel_rfl) ?_;refine headG_skip (by kernel_rfl) (by kernel_rfl) ?_;refine headG_skip (by kernel_rfl) (by kernel_rfl) ?_;refine headG_run (by kernel_rfl) (fun w' hg=>?_) ?_
   ·go_simp;exact Grew.refl _
   refine headG_run (by kernel_rfl) (fun w' hg=>?_) ?_
   ·go_simp;exact Grew.refl _
   exact headG_nil
  case sT=>
   intro w9 hg9;simp only[List.toList_toArray,List.append_eq,List.cons_append,List.nil_append,putAll,Act.put,List.setIfInBounds_toArray,List.set_cons_zero,List.set_cons_succ];go_wp2_with fail;go_ret;exact⟨rfl,H0.out.trans hg9⟩
 rcases q with _|_
 ·refine region_seqG [.pointer (some ⟨w.heap.size,0,none⟩),.int .i64 x.kind,.bool true,.bool true,.agg csx.toArray,.bool false,.bool true,.bool true,.bool true,.agg csx.toArray,.agg cso.toArray,.bool r,.bool r,.bool r] _ (by kernel_rfl) (by kernel_rfl) rfl ?sH ?sT
  case sH=>
   simp only[List.toList_toArray,List.append_eq,List.cons_append,List.nil_append,putAll,Act.put,List.setIfInBounds_toArray,List.set_cons_zero,List.set_cons_succ];refine headG_run (by kernel_rfl) (fun w' hg=>?_) ?_
   ·go_simp;exact Grew.refl _
   refine headG_run (by kernel_rfl) (fun w' hg=>?_) ?_
   ·have hc:=HC.out w' hg;exact ld_one 3 (.tmp 5) (fun w v h=>by simp[go_sem,h]) rfl (by kernel_rfl) hc ⟨by kernel_rfl,Grew.refl _⟩
   refine headG_run (by kernel_rfl) (fun w' hg=>?_) ?_
   ·go_simp;first|exact⟨beq_eq_false_iff_ne.1 HP.out,Grew.refl _⟩|exact⟨beq_iff_eq.1 HP.out,Grew.refl _⟩
   refine headG_run (by kernel_rfl) (fun w' hg=>?_) ?_
   ·go_simp;exact Grew.refl _
   refine headG_run (by kernel_rfl) (fun w' hg=>?_) ?_
   ·refine wp_load_mid 34 (.tmp 2) rfl (w.heap.size) 0 rfl csx _ ((HB1.out.grew hg).rangeN 0 _ (by simp)) Tryz.underlying34 rfl (by rw[HLx.out];exact infoX) ?_;exact⟨rfl,Grew.refl _⟩
   refine headG_run (by kernel_rfl) (fun w' hg=>?_) ?_
   ·go_simp;(with_reducible refine(HB.out _ (H0.out.trans hg)).mono ?_);rintro e wq ⟨rfl,kq⟩;exact⟨rfl,kq⟩
   refine headG_run (by kernel_rfl) (fun w' hg=>?_) ?_
   ·go_simp;exact Grew.refl _
   refine headG_run (by kernel_rfl) (fun w' hg=>?_) ?_
   ·go_simp;exact Grew.refl _
   refine headG_run (by kernel_rfl) (fun w' hg=>?_) ?_
   ·go_simp;exact Grew.refl _
   refine headG_run (by kernel_rfl) (fun w' hg=>?_) ?_
   ·refine wp_load_mid 34 (.tmp 2) rfl (w.heap.size) 0 rfl csx _ ((HB1.out.grew hg).rangeN 0 _ (by simp)) Tryz.underlying34 rfl (by rw[HLx.out];exact infoX) ?_;exact⟨rfl,Grew.refl _⟩
   refine headG_run (by kernel_rfl) (fun w' hg=>?_) ?_
   ·refine wp_load_mid 34 (.tmp 3) rfl (w.heap.size+1) 0 rfl cso _ ((HB2.out.grew hg).rangeN 0 _ (by simp)) Tryz.underlying34 rfl (by rw[HLo.out];exact infoX) ?_;exact⟨rfl,Grew.refl _⟩
   refine headG_run (by kernel_rfl) (fun w' hg=>?_) ?_
   ·go_simp;(with_reducible refine(HA.out _ (H0.out.trans hg)).mono ?_);rintro e wq ⟨rfl,kq⟩;exact⟨rfl,kq⟩
   refine headG_run (by kernel_rfl) (fun w' hg=>?_) ?_
   ·go_simp;exact Grew.refl _
   refine headG_run (by kernel_rfl) (fun w' hg=>?_) ?_
   ·go_simp;exact Grew.refl _
   exact headG_nil
  case sT=>
   intro w9 hg9;simp only[List.toList_toArray,List.append_eq,List.cons_append,List.nil_append,putAll,Act.put,List.setIfInBounds_toArray,List.set_cons_zero,List.set_cons_succ];go_wp2_with fail;go_ret;exact⟨rfl,H0.out.trans hg9⟩
 refine region_seqG [.pointer (some ⟨w.heap.size,0,none⟩),.int .i64 x.kind,.bool true,.bool true,.agg csx.toArray,.bool true,.bool false,.bool false,.bool false,undef,undef,undef,.bool false,.bool false] _ (by kernel_rfl) (by kernel_rfl) rfl ?sH ?sT
 case sH=>
  simp only[List.toList_toArray,List.append_eq,List.cons_append,List.nil_append,putAll,Act.put,List.setIfInBounds_toArray,List.set_cons_zero,List.set_cons_succ];refine headG_run (by kernel_rfl) (fun w' hg=>?_) ?_
  ·go_simp;exact Grew.refl _
  refine headG_run (by kernel_rfl) (fun w' hg=>?_) ?_
  ·have hc:=HC.out w' hg;exact ld_one 3 (.tmp 5) (fun w v h=>by simp[go_sem,h]) rfl (by kernel_rfl) hc ⟨by kernel_rfl,Grew.refl _⟩
  refine headG_run (by kernel_rfl) (fun w' hg=>?_) ?_
  ·go_simp;first|exact⟨beq_eq_false_iff_ne.1 HP.out,Grew.refl _⟩|exact⟨beq_iff_eq.1 HP.out,Grew.refl _⟩
  refine headG_run (by kernel_rfl) (fun w' hg=>?_) ?_
  ·go_simp;exact Grew.refl _
  refine headG_run (by kernel_rfl) (fun w' hg=>?_) ?_
  ·refine wp_load_mid 34 (.tmp 2) rfl (w.heap.size) 0 rfl csx _ ((HB1.out.grew hg).rangeN 0 _ (by simp)) Tryz.underlying34 rfl (by rw[HLx.out];exact infoX) ?_;exact⟨rfl,Grew.refl _⟩
  refine headG_run (by kernel_rfl) (fun w' hg=>?_) ?_
  ·go_simp;(with_reducible refine(HB.out _ (H0.out.trans hg)).mono ?_);rintro e wq ⟨rfl,kq⟩;exact⟨rfl,kq⟩
  refine headG_run (by kernel_rfl) (fun w' hg=>?_) ?_
  ·go_simp;exact Grew.refl _
  refine headG_run (by kernel_rfl) (fun w' hg=>?_) ?_
  ·go_simp;exact Grew.refl _
  refine headG_run (by kernel_rfl) (fun w' hg=>?_) ?_
  ·go_simp;exact Grew.refl _
  refine headG_skip (by kernel_rfl) (by kernel_rfl) ?_;refine headG_skip (by kernel_rfl) (by kernel_rfl) ?_;refine headG_skip (by kernel_rfl) (by kernel_rfl) ?_;refine headG_run (by kernel_rfl) (fun w' hg=>?_) ?_
  ·go_simp;exact Grew.refl _
  refine headG_run (by kernel_rfl) (fun w' hg=>?_) ?_
  ·go_simp;exact Grew.refl _
  exact headG_nil
 case sT=>
  intro w9 hg9;simp only[List.toList_toArray,List.append_eq,List.cons_append,List.nil_append,putAll,Act.put,List.setIfInBounds_toArray,List.set_cons_zero,List.set_cons_succ];go_wp2_with fail;go_ret;exact⟨rfl,H0.out.trans hg9⟩
end Go.Proofs.YtcimmbhdcebehaaGreatDoor
