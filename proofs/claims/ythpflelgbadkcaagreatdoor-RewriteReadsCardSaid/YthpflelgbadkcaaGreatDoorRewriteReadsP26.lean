/- package rewrite: sameRows and the closures of the rules. -/
import Derived.Test.YthpflelgbadkcaaGreatDoorRewriteReadsP01
import Derived.Test.YthpflelgbadkcaaGreatDoorRewriteReadsP24
import Derived.Test.YthpflelgbadkcaaGreatDoorRewriteReadsP25
set_option maxRecDepth 100000
set_option maxHeartbeats 12800000
set_option linter.unusedVariables false
set_option linter.unusedSimpArgs false
namespace Go.Proofs.YthpflelgbadkcaaGreatDoor
open Go.RowKit Pl
def CG (e:Ex):Prop:=BL Lc e∧E8 e∧AL e≤1000000
theorem CG.kid {e k:Ex} (h:CG e) (hk:k∈e.kids):CG k:=⟨h.1.kid hk,Hi h.2.1 hk,by have:=Aa hk;have:=B9 e;have:=h.2.2;omega⟩
theorem CG.two3 {e:Ex} (h:CG e):BL Hu e:=h.1.mono (fun _ h=>GN h) (AL e) e (SD _)
def Fg (x y:Ex):Bool:=(CY x).2&&(CY y).2&&(CY x).1.toList==(CY y).1.toList
def MV (x y o:Ex):Bool:=FV y o&&(DB y||Fg x y)
def Nx (c o:Ex):Bool:=decide (c.kind=0)&& !Gw c 0&&FV c o
theorem GW {x y:Ex} (hx:CG x) (hy:CG y) {w:World} {csx csy:List Value} (hrx:BZ w w.heap.size x csx) (hry:BZ w w.heap.size y csy):
  Calls Tryz.prog 13 #[.agg csx.toArray,.agg csy.toArray] w fun e' w'=>e'= .returned (.bool (FV x y))∧A5 w w':=KK 1000000 x y hx.2.2 hy.2.2 (SD _) hx.2.1 hy.2.1 w csx csy hrx hry
theorem P2 {x:Ex} (hx:CG x) {w:World} {csx:List Value} (hrx:BZ w w.heap.size x csx):
  Calls Tryz.prog 87 #[.agg csx.toArray] w fun e' w'=>e'= .returned (.bool (DB x))∧A5 w w':=DQ (AL x) x (SD _) hx.two3 w csx hrx
theorem Iy {x y:Ex} (hx:CG x) (hy:CG y) {w:World} {csx csy:List Value} (hwt:D5 w) (hot:Dc w) (hrx:BZ w w.heap.size x csx) (hry:BZ w w.heap.size y csy):
  Calls Tryz.prog 88 #[.agg csx.toArray,.agg csy.toArray] w fun e' w'=>e'= .returned (.bool (Fg x y))∧A5 w w':=by
 obtain⟨hb1,hb2,hG⟩:=Bz w 29 29 csx.toArray csy.toArray;have HA:=S9 (fun w' (g:A5 w w')=>Do (AL x) x (SD _) hx.2.2 hx.1 w' csx (hwt.grew g) (hot.keep g (fun h=>h)) (hrx.grew g));have HB:=S9 (fun w' (g:A5 w w')=>Do (AL y) y (SD _) hy.2.2 hy.1 w' csy (hwt.grew g) (hot.keep g (fun h=>h)) (hry.grew g));have HL:=S9 (SC (BX hrx) (BX hry));obtain⟨r,hr⟩:∃r,Fg x y=r:=⟨_,rfl⟩;rw[hr];unfold Fg at hr;obtain⟨⟨la,ka⟩,hsa⟩:∃p,CY x=p:=⟨_,rfl⟩;obtain⟨⟨lb,kb⟩,hsb⟩:∃p,CY y=p:=⟨_,rfl⟩;rw[hsa,hsb]at hr;rw[hsa]at HA;rw[hsb]at HB;dsimp only at hr HA HB;have HR:=S9 hr;clear hx hy hwt hot hrx hry hsa hsb hr;go_enter Tryz.func88,Tryz.ntmps88;go_upto_region 1 with fail;change Code.wp _ _ _ _ ((w.alloc (.cells csx.toArray 29)).alloc (.cells csy.toArray 29));generalize (w.alloc (.cells csx.toArray 29)).alloc (.cells csy.toArray 29)=w1 at*;have H0:=S9 hG;have HG:=S9 (Sa w1);have HB1:=S9 hb1;have HB2:=S9 hb2;have HB1R:=S9 (show ∀w',A5 w1 w'→w'.rangeAt w.heap.size 0 csx from fun w' g=>(hb1.grew g).rangeN 0 _ (by simp));have HB2R:=S9 (show ∀w',A5 w1 w'→w'.rangeAt (w.heap.size+1) 0 csy from fun w' g=>(hb2.grew g).rangeN 0 _ (by simp));clear hb1 hb2 hG;go_upto_region 3 with(first|((with_reducible refine AG 29 (.tmp 2) rfl ?_);refine wpList_load_mid rfl 29 (.tmp 2) rfl (w.heap.size) 0 rfl csx _ (HB1R.out _ HG.out) Tryz.underlying29 rfl (by rw[HL.out.1];exact AD) ?_)|(go_at_call 121;(with_reducible refine(HA.out _ (H0.out.trans HG.out)).mono ?_);rintro e3 w2 ⟨rfl,k2⟩;have HG2:=S9 (HG.out.trans k2);clear k2)|((with_reducible refine AG 29 (.tmp 3) rfl ?_);refine wpList_load_mid rfl 29 (.tmp 3) rfl (w.heap.size+1) 0 rfl csy _ (HB2R.out _ HG2.out) Tryz.underlying29 rfl (by rw[HL.out.2];exact AD) ?_)|(go_at_call 121;(with_reducible refine(HB.out _ (H0.out.trans HG2.out)).mono ?_);rintro e3 w3 ⟨rfl,k2⟩;have HG3:=S9 (HG2.out.trans k2);clear k2));have hr:=HR.out;clear HR HA HB;rcases ka with _|_
 ·have h9:r=false:=by rw[←hr];rfl
  subst h9;clear hr;go_wp2_with fail;go_ret;exact⟨rfl,H0.out.trans HG3.out⟩
 rcases kb with _|_
 ·have h9:r=false:=by rw[←hr];rfl
  subst h9;clear hr;go_wp2_with fail;go_ret;exact⟨rfl,H0.out.trans HG3.out⟩
 have hz:(la.toList==lb.toList)=r:=by rw[←hr];rfl
 clear hr;rcases r with _|_
 ·go_wp2_with fail;go_ret;exact⟨rfl,H0.out.trans HG3.out⟩
 go_wp2_with fail;go_ret;exact⟨rfl,H0.out.trans HG3.out⟩
theorem CM {x y o:Ex} (hx:CG x) (hy:CG y) (ho:CG o) {w:World} {csx csy cso:List Value} (hwt:D5 w) (hot:Dc w) (hrx:BZ w w.heap.size x csx) (hry:BZ w w.heap.size y csy) (hro:BZ w w.heap.size o cso):
  Calls Tryz.prog 86 #[.agg csx.toArray,.agg csy.toArray,.agg cso.toArray] w fun e' w'=>e'= .returned (.bool (MV x y o))∧A5 w w':=by
 obtain⟨hb1,hb2,hb3,hG⟩:=Cb w 29 29 29 csx.toArray csy.toArray cso.toArray;have HA:=S9 (fun w' (g:A5 w w')=>GW hy ho (hry.grew g) (hro.grew g));have HB:=S9 (fun w' (g:A5 w w')=>P2 hy (hry.grew g));have HC:=S9 (fun w' (g:A5 w w')=>Iy hx hy (hwt.grew g) (hot.keep g (fun h=>h)) (hrx.grew g) (hry.grew g));have HLx:=S9 (BX hrx);have HLy:=S9 (BX hry);have HLo:=S9 (BX hro);have hF:MV x y o=(FV y o&&(DB y||Fg x y)):=rfl;obtain⟨p,hp⟩:∃r,FV y o=r:=⟨_,rfl⟩;obtain⟨q,hq⟩:∃r,DB y=r:=⟨_,rfl⟩;obtain⟨r,hr⟩:∃r,Fg x y=r:=⟨_,rfl⟩;rw[hF,hp,hq,hr];rw[hp]at HA;rw[hq]at HB;rw[hr]at HC;clear hx hy ho hwt hot hrx hry hro hF hp hq hr;go_enter Tryz.func86,Tryz.ntmps86;go_upto_region 1 with fail;change Code.wp _ _ _ _ (((w.alloc (.cells csx.toArray 29)).alloc (.cells csy.toArray 29)).alloc (.cells cso.toArray 29));generalize ((w.alloc (.cells csx.toArray 29)).alloc (.cells csy.toArray 29)).alloc (.cells cso.toArray 29)=w1 at*;have H0:=S9 hG;have HB1:=S9 hb1;have HB2:=S9 hb2;have HB3:=S9 hb3;clear hb1 hb2 hb3 hG;rcases p with _|_
 ·refine AK [.agg csy.toArray,.agg cso.toArray,.bool false,.bool false,undef,undef,undef,undef,undef,undef,undef,.bool false,.bool false] _ (by kernel_rfl) (by kernel_rfl) rfl ?sH ?sT
  case sH=>
   simp only[List.toList_toArray,List.append_eq,List.cons_append,List.nil_append,AI,Act.put,List.setIfInBounds_toArray,List.set_cons_zero,List.set_cons_succ];refine A4 (by kernel_rfl) (fun w' hg=>?_) ?_
   ·refine wp_load_mid 29 (.tmp 4) rfl (w.heap.size+1) 0 rfl csy _ ((HB2.out.grew hg).rangeN 0 _ (by simp)) Tryz.underlying29 rfl (by rw[HLy.out];exact AD) ?_;exact⟨rfl,Sa _⟩
   refine A4 (by kernel_rfl) (fun w' hg=>?_) ?_
   ·refine wp_load_mid 29 (.tmp 5) rfl (w.heap.size+1+1) 0 rfl cso _ ((HB3.out.grew hg).rangeN 0 _ (by simp)) Tryz.underlying29 rfl (by rw[HLo.out];exact AD) ?_;exact⟨rfl,Sa _⟩
   refine A4 (by kernel_rfl) (fun w' hg=>?_) ?_
   ·go_simp;(with_reducible refine(HA.out _ (H0.out.trans hg)).mono ?_);rintro e wq ⟨rfl,kq⟩;exact⟨rfl,kq⟩
   refine A4 (by kernel_rfl) (fun w' hg=>?_) ?_
   ·go_simp;exact Sa _
   refine AA (by kernel_rfl) (by kernel_rfl) ?_;refine AA (by kernel_rfl) (by kernel_rfl) ?_;refine AA (by kernel_rfl) (by kernel_rfl) ?_;refine AA (by kernel_rfl) (by kernel_rfl) ?_;refine AA (by kernel_rfl) (by kernel_rfl) ?_;refine AA (by kernel_rfl) (by kernel_rfl) ?_;refine AA (by kernel_rfl) (by kernel_rfl) ?_;refine A4 (by kernel_rfl) (fun w' hg=>?_) ?_
   ·go_simp;exact Sa _
   refine A4 (by kernel_rfl) (fun w' hg=>?_) ?_
   ·go_simp;exact Sa _
   exact AQ
  case sT=>
   intro w9 hg9;simp only[List.toList_toArray,List.append_eq,List.cons_append,List.nil_append,AI,Act.put,List.setIfInBounds_toArray,List.set_cons_zero,List.set_cons_succ];go_wp2_with fail;go_ret;exact⟨rfl,H0.out.trans hg9⟩
 rcases q with _|_
 ·refine AK [.agg csy.toArray,.agg cso.toArray,.bool true,.bool true,.agg csy.toArray,.bool false,.bool false,.agg csx.toArray,.agg csy.toArray,.bool r,.bool r,.bool r,.bool r] _ (by kernel_rfl) (by kernel_rfl) rfl ?sH ?sT
  case sH=>
   simp only[List.toList_toArray,List.append_eq,List.cons_append,List.nil_append,AI,Act.put,List.setIfInBounds_toArray,List.set_cons_zero,List.set_cons_succ];refine A4 (by kernel_rfl) (fun w' hg=>?_) ?_
   ·refine wp_load_mid 29 (.tmp 4) rfl (w.heap.size+1) 0 rfl csy _ ((HB2.out.grew hg).rangeN 0 _ (by simp)) Tryz.underlying29 rfl (by rw[HLy.out];exact AD) ?_;exact⟨rfl,Sa _⟩
   refine A4 (by kernel_rfl) (fun w' hg=>?_) ?_
   ·refine wp_load_mid 29 (.tmp 5) rfl (w.heap.size+1+1) 0 rfl cso _ ((HB3.out.grew hg).rangeN 0 _ (by simp)) Tryz.underlying29 rfl (by rw[HLo.out];exact AD) ?_;exact⟨rfl,Sa _⟩
   refine A4 (by kernel_rfl) (fun w' hg=>?_) ?_
   ·go_simp;(with_reducible refine(HA.out _ (H0.out.trans hg)).mono ?_);rintro e wq ⟨rfl,kq⟩;exact⟨rfl,kq⟩
   refine A4 (by kernel_rfl) (fun w' hg=>?_) ?_
   ·go_simp;exact Sa _
   refine A4 (by kernel_rfl) (fun w' hg=>?_) ?_
   ·refine wp_load_mid 29 (.tmp 4) rfl (w.heap.size+1) 0 rfl csy _ ((HB2.out.grew hg).rangeN 0 _ (by simp)) Tryz.underlying29 rfl (by rw[HLy.out];exact AD) ?_;exact⟨rfl,Sa _⟩
   refine A4 (by kernel_rfl) (fun w' hg=>?_) ?_
   ·go_simp;(with_reducible refine(HB.out _ (H0.out.trans hg)).mono ?_);rintro e wq ⟨rfl,kq⟩;exact⟨rfl,kq⟩
   refine A4 (by kernel_rfl) (fun w' hg=>?_) ?_
   ·go_simp;exact Sa _
   refine A4 (by kernel_rfl) (fun w' hg=>?_) ?_
   ·refine wp_load_mid 29 (.tmp 3) rfl (w.heap.size) 0 rfl csx _ ((HB1.out.grew hg).rangeN 0 _ (by simp)) Tryz.underlying29 rfl (by rw[HLx.out];exact AD) ?_;exact⟨rfl,Sa _⟩
   refine A4 (by kernel_rfl) (fun w' hg=>?_) ?_
   ·refine wp_load_mid 29 (.tmp 4) rfl (w.heap.size+1) 0 rfl csy _ ((HB2.out.grew hg).rangeN 0 _ (by simp)) Tryz.underlying29 rfl (by rw[HLy.out];exact AD) ?_;exact⟨rfl,Sa _⟩
   refine A4 (by kernel_rfl) (fun w' hg=>?_) ?_
   ·go_simp;(with_reducible refine(HC.out _ (H0.out.trans hg)).mono ?_);rintro e wq ⟨rfl,kq⟩;exact⟨rfl,kq⟩
   refine A4 (by kernel_rfl) (fun w' hg=>?_) ?_
   ·go_simp;exact Sa _
   refine A4 (by kernel_rfl) (fun w' hg=>?_) ?_
   ·go_simp;exact Sa _
   refine A4 (by kernel_rfl) (fun w' hg=>?_) ?_
   ·go_simp;exact Sa _
   exact AQ
  case sT=>
   intro w9 hg9;simp only[List.toList_toArray,List.append_eq,List.cons_append,List.nil_append,AI,Act.put,List.setIfInBounds_toArray,List.set_cons_zero,List.set_cons_succ];go_wp2_with fail;go_ret;exact⟨rfl,H0.out.trans hg9⟩
 refine AK [.agg csy.toArray,.agg cso.toArray,.bool true,.bool true,.agg csy.toArray,.bool true,.bool true,undef,undef,undef,.bool true,.bool true,.bool true] _ (by kernel_rfl) (by kernel_rfl) rfl ?sH ?sT
 case sH=>
  simp only[List.toList_toArray,List.append_eq,List.cons_append,List.nil_append,AI,Act.put,List.setIfInBounds_toArray,List.set_cons_zero,List.set_cons_succ];refine A4 (by kernel_rfl) (fun w' hg=>?_) ?_
  ·refine wp_load_mid 29 (.tmp 4) rfl (w.heap.size+1) 0 rfl csy _ ((HB2.out.grew hg).rangeN 0 _ (by simp)) Tryz.underlying29 rfl (by rw[HLy.out];exact AD) ?_;exact⟨rfl,Sa _⟩
  refine A4 (by kernel_rfl) (fun w' hg=>?_) ?_
  ·refine wp_load_mid 29 (.tmp 5) rfl (w.heap.size+1+1) 0 rfl cso _ ((HB3.out.grew hg).rangeN 0 _ (by simp)) Tryz.underlying29 rfl (by rw[HLo.out];exact AD) ?_;exact⟨rfl,Sa _⟩
  refine A4 (by kernel_rfl) (fun w' hg=>?_) ?_
  ·go_simp;(with_reducible refine(HA.out _ (H0.out.trans hg)).mono ?_);rintro e wq ⟨rfl,kq⟩;exact⟨rfl,kq⟩
  refine A4 (by kernel_rfl) (fun w' hg=>?_) ?_
  ·go_simp;exact Sa _
  refine A4 (by kernel_rfl) (fun w' hg=>?_) ?_
  ·refine wp_load_mid 29 (.tmp 4) rfl (w.heap.size+1) 0 rfl csy _ ((HB2.out.grew hg).rangeN 0 _ (by simp)) Tryz.underlying29 rfl (by rw[HLy.out];exact AD) ?_;exact⟨rfl,Sa _⟩
  refine A4 (by kernel_rfl) (fun w' hg=>?_) ?_
  ·go_simp;(with_reducible refine(HB.out _ (H0.out.trans hg)).mono ?_);rintro e wq ⟨rfl,kq⟩;exact⟨rfl,kq⟩
  refine A4 (by kernel_rfl) (fun w' hg=>?_) ?_
  ·go_simp;exact Sa _
  refine AA (by kernel_rfl) (by kernel_rfl) ?_;refine AA (by kernel_rfl) (by kernel_rfl) ?_;refine AA (by kernel_rfl) (by kernel_rfl) ?_;refine A4 (by kernel_rfl) (fun w' hg=>?_) ?_
  ·go_simp;exact Sa _
  refine A4 (by kernel_rfl) (fun w' hg=>?_) ?_
  ·go_simp;exact Sa _
  refine A4 (by kernel_rfl) (fun w' hg=>?_) ?_
  ·go_simp;exact Sa _
  exact AQ
 case sT=>
  intro w9 hg9;simp only[List.toList_toArray,List.append_eq,List.cons_append,List.nil_append,AI,Act.put,List.setIfInBounds_toArray,List.set_cons_zero,List.set_cons_succ];go_wp2_with fail;go_ret;exact⟨rfl,H0.out.trans hg9⟩
theorem DK {x o:Ex} (hx:CG x) (ho:CG o) {w:World} {csx cso:List Value} (hrx:BZ w w.heap.size x csx) (hro:BZ w w.heap.size o cso):
  Calls Tryz.prog 90 #[.agg csx.toArray,.agg cso.toArray] w fun e' w'=>e'= .returned (.bool (Nx x o))∧A5 w w':=by
 obtain⟨hb1,hb2,hG⟩:=Bz w 29 29 csx.toArray cso.toArray;have HA:=S9 (fun w' (g:A5 w w')=>GW hx ho (hrx.grew g) (hro.grew g));have HB:=S9 (fun w' (g:A5 w w')=>CE x 0 csx w' _ (hrx.grew g));have HLx:=S9 (BX hrx);have HLo:=S9 (BX hro);have hF:Nx x o=(decide (x.kind=0)&& !Gw x 0&&FV x o):=rfl;obtain⟨q,hq⟩:∃r,Gw x 0=r:=⟨_,rfl⟩;obtain⟨r,hr⟩:∃r,FV x o=r:=⟨_,rfl⟩;have hc0:csx.toArray[0]? =some (.int .i64 x.kind):=by
  obtain⟨vm,vb,vk,rfl, -⟩:=hrx.open_;rfl
 obtain⟨p,hp⟩:∃r,decide (x.kind=0)=r:=⟨_,rfl⟩;rw[hF,hp,hq,hr];rw[hr]at HA;rw[hq]at HB;clear hx ho hrx hro hF hq hr;go_enter Tryz.func90,Tryz.ntmps90;go_upto_region 1 with fail;change Code.wp _ _ _ _ ((w.alloc (.cells csx.toArray 29)).alloc (.cells cso.toArray 29));generalize (w.alloc (.cells csx.toArray 29)).alloc (.cells cso.toArray 29)=w1 at*;have H0:=S9 hG;have HB1:=S9 hb1;have HB2:=S9 hb2;have HC:=S9 (fun w' (g:A5 w1 w')=>(show w'.cell? ⟨w.heap.size,0,none⟩=some (.int .i64 x.kind)from((hb1.grew g).cell 0).trans hc0));have hpb:(x.kind==0)=p:=by rw[←hp];by_cases h:x.kind=0<;>simp[h]
 have HP:=S9 hpb;clear hb1 hb2 hG hc0 hp hpb;rcases p with _|_
 ·refine AK [.pointer (some ⟨w.heap.size,0,none⟩),.int .i64 x.kind,.bool false,.bool false,undef,undef,undef,.bool false,.bool false,undef,undef,undef,.bool false,.bool false] _ (by kernel_rfl) (by kernel_rfl) rfl ?sH ?sT
  case sH=>
   simp only[List.toList_toArray,List.append_eq,List.cons_append,List.nil_append,AI,Act.put,List.setIfInBounds_toArray,List.set_cons_zero,List.set_cons_succ];refine A4 (by kernel_rfl) (fun w' hg=>?_) ?_
   ·go_simp;exact Sa _
   refine A4 (by kernel_rfl) (fun w' hg=>?_) ?_
   ·have hc:=HC.out w' hg;exact AT 3 (.tmp 5) (fun w v h=>by simp[go_sem,h]) rfl (by kernel_rfl) hc ⟨by kernel_rfl,Sa _⟩
   refine A4 (by kernel_rfl) (fun w' hg=>?_) ?_
   ·go_simp;first|exact⟨SA.1 HP.out,Sa _⟩|exact⟨SG.1 HP.out,Sa _⟩
   refine A4 (by kernel_rfl) (fun w' hg=>?_) ?_
   ·go_simp;exact Sa _
   refine AA (by kernel_rfl) (by kernel_rfl) ?_;refine AA (by kernel_rfl) (by kernel_rfl) ?_;refine AA (by kernel_rfl) (by kernel_rfl) ?_;refine A4 (by kernel_rfl) (fun w' hg=>?_) ?_
   ·go_simp;exact Sa _
   refine A4 (by kernel_rfl) (fun w' hg=>?_) ?_
   ·go_simp;exact Sa _
   refine AA (by kernel_rfl) (by kernel_rfl) ?_;refine AA (by kernel_rfl) (by kernel_rfl) ?_;refine AA (by kernel_rfl) (by kernel_rfl) ?_;refine A4 (by kernel_rfl) (fun w' hg=>?_) ?_
   ·go_simp;exact Sa _
   refine A4 (by kernel_rfl) (fun w' hg=>?_) ?_
   ·go_simp;exact Sa _
   exact AQ
  case sT=>
   intro w9 hg9;simp only[List.toList_toArray,List.append_eq,List.cons_append,List.nil_append,AI,Act.put,List.setIfInBounds_toArray,List.set_cons_zero,List.set_cons_succ];go_wp2_with fail;go_ret;exact⟨rfl,H0.out.trans hg9⟩
 rcases q with _|_
 ·refine AK [.pointer (some ⟨w.heap.size,0,none⟩),.int .i64 x.kind,.bool true,.bool true,.agg csx.toArray,.bool false,.bool true,.bool true,.bool true,.agg csx.toArray,.agg cso.toArray,.bool r,.bool r,.bool r] _ (by kernel_rfl) (by kernel_rfl) rfl ?sH ?sT
  case sH=>
   simp only[List.toList_toArray,List.append_eq,List.cons_append,List.nil_append,AI,Act.put,List.setIfInBounds_toArray,List.set_cons_zero,List.set_cons_succ];refine A4 (by kernel_rfl) (fun w' hg=>?_) ?_
   ·go_simp;exact Sa _
   refine A4 (by kernel_rfl) (fun w' hg=>?_) ?_
   ·have hc:=HC.out w' hg;exact AT 3 (.tmp 5) (fun w v h=>by simp[go_sem,h]) rfl (by kernel_rfl) hc ⟨by kernel_rfl,Sa _⟩
   refine A4 (by kernel_rfl) (fun w' hg=>?_) ?_
   ·go_simp;first|exact⟨SA.1 HP.out,Sa _⟩|exact⟨SG.1 HP.out,Sa _⟩
   refine A4 (by kernel_rfl) (fun w' hg=>?_) ?_
   ·go_simp;exact Sa _
   refine A4 (by kernel_rfl) (fun w' hg=>?_) ?_
   ·refine wp_load_mid 29 (.tmp 2) rfl (w.heap.size) 0 rfl csx _ ((HB1.out.grew hg).rangeN 0 _ (by simp)) Tryz.underlying29 rfl (by rw[HLx.out];exact AD) ?_;exact⟨rfl,Sa _⟩
   refine A4 (by kernel_rfl) (fun w' hg=>?_) ?_
   ·go_simp;(with_reducible refine(HB.out _ (H0.out.trans hg)).mono ?_);rintro e wq ⟨rfl,kq⟩;exact⟨rfl,kq⟩
   refine A4 (by kernel_rfl) (fun w' hg=>?_) ?_
   ·go_simp;exact Sa _
   refine A4 (by kernel_rfl) (fun w' hg=>?_) ?_
   ·go_simp;exact Sa _
   refine A4 (by kernel_rfl) (fun w' hg=>?_) ?_
   ·go_simp;exact Sa _
   refine A4 (by kernel_rfl) (fun w' hg=>?_) ?_
   ·refine wp_load_mid 29 (.tmp 2) rfl (w.heap.size) 0 rfl csx _ ((HB1.out.grew hg).rangeN 0 _ (by simp)) Tryz.underlying29 rfl (by rw[HLx.out];exact AD) ?_;exact⟨rfl,Sa _⟩
   refine A4 (by kernel_rfl) (fun w' hg=>?_) ?_
   ·refine wp_load_mid 29 (.tmp 3) rfl (w.heap.size+1) 0 rfl cso _ ((HB2.out.grew hg).rangeN 0 _ (by simp)) Tryz.underlying29 rfl (by rw[HLo.out];exact AD) ?_;exact⟨rfl,Sa _⟩
   refine A4 (by kernel_rfl) (fun w' hg=>?_) ?_
   ·go_simp;(with_reducible refine(HA.out _ (H0.out.trans hg)).mono ?_);rintro e wq ⟨rfl,kq⟩;exact⟨rfl,kq⟩
   refine A4 (by kernel_rfl) (fun w' hg=>?_) ?_
   ·go_simp;exact Sa _
   refine A4 (by kernel_rfl) (fun w' hg=>?_) ?_
   ·go_simp;exact Sa _
   exact AQ
  case sT=>
   intro w9 hg9;simp only[List.toList_toArray,List.append_eq,List.cons_append,List.nil_append,AI,Act.put,List.setIfInBounds_toArray,List.set_cons_zero,List.set_cons_succ];go_wp2_with fail;go_ret;exact⟨rfl,H0.out.trans hg9⟩
 refine AK [.pointer (some ⟨w.heap.size,0,none⟩),.int .i64 x.kind,.bool true,.bool true,.agg csx.toArray,.bool true,.bool false,.bool false,.bool false,undef,undef,undef,.bool false,.bool false] _ (by kernel_rfl) (by kernel_rfl) rfl ?sH ?sT
 case sH=>
  simp only[List.toList_toArray,List.append_eq,List.cons_append,List.nil_append,AI,Act.put,List.setIfInBounds_toArray,List.set_cons_zero,List.set_cons_succ];refine A4 (by kernel_rfl) (fun w' hg=>?_) ?_
  ·go_simp;exact Sa _
  refine A4 (by kernel_rfl) (fun w' hg=>?_) ?_
  ·have hc:=HC.out w' hg;exact AT 3 (.tmp 5) (fun w v h=>by simp[go_sem,h]) rfl (by kernel_rfl) hc ⟨by kernel_rfl,Sa _⟩
  refine A4 (by kernel_rfl) (fun w' hg=>?_) ?_
  ·go_simp;first|exact⟨SA.1 HP.out,Sa _⟩|exact⟨SG.1 HP.out,Sa _⟩
  refine A4 (by kernel_rfl) (fun w' hg=>?_) ?_
  ·go_simp;exact Sa _
  refine A4 (by kernel_rfl) (fun w' hg=>?_) ?_
  ·refine wp_load_mid 29 (.tmp 2) rfl (w.heap.size) 0 rfl csx _ ((HB1.out.grew hg).rangeN 0 _ (by simp)) Tryz.underlying29 rfl (by rw[HLx.out];exact AD) ?_;exact⟨rfl,Sa _⟩
  refine A4 (by kernel_rfl) (fun w' hg=>?_) ?_
  ·go_simp;(with_reducible refine(HB.out _ (H0.out.trans hg)).mono ?_);rintro e wq ⟨rfl,kq⟩;exact⟨rfl,kq⟩
  refine A4 (by kernel_rfl) (fun w' hg=>?_) ?_
  ·go_simp;exact Sa _
  refine A4 (by kernel_rfl) (fun w' hg=>?_) ?_
  ·go_simp;exact Sa _
  refine A4 (by kernel_rfl) (fun w' hg=>?_) ?_
  ·go_simp;exact Sa _
  refine AA (by kernel_rfl) (by kernel_rfl) ?_;refine AA (by kernel_rfl) (by kernel_rfl) ?_;refine AA (by kernel_rfl) (by kernel_rfl) ?_;refine A4 (by kernel_rfl) (fun w' hg=>?_) ?_
  ·go_simp;exact Sa _
  refine A4 (by kernel_rfl) (fun w' hg=>?_) ?_
  ·go_simp;exact Sa _
  exact AQ
 case sT=>
  intro w9 hg9;simp only[List.toList_toArray,List.append_eq,List.cons_append,List.nil_append,AI,Act.put,List.setIfInBounds_toArray,List.set_cons_zero,List.set_cons_succ];go_wp2_with fail;go_ret;exact⟨rfl,H0.out.trans hg9⟩
end Go.Proofs.YthpflelgbadkcaaGreatDoor
