/- What the card of the law stands on: Rw4, Rw5, Rw6. -/
import Derived.Test.YthpflelgbadkcaaGreatDoorRewriteTypesP01
import Derived.Test.YthpflelgbadkcaaGreatDoorRewriteTypesP02
import Derived.Test.YthpflelgbadkcaaGreatDoorRewriteTypesP11
import Derived.Test.YthpflelgbadkcaaGreatDoorRewriteTypesP23
import Derived.Test.YthpflelgbadkcaaGreatDoorRewriteTypesP24
import Derived.Test.YthpflelgbadkcaaGreatDoorRewriteTypesP18
set_option maxRecDepth 100000
set_option maxHeartbeats 12800000
set_option linter.unusedVariables false
set_option linter.unusedSimpArgs false
namespace Go.Proofs.YthpflelgbadkcaaGreatDoor
open Go.RowKit Pl
def CM (e:Ex):Prop:=BW LZ e∧El e∧AH e≤1000000
theorem CM.kid {e k:Ex} (h:CM e) (hk:k∈e.kids):CM k:=⟨h.1.kid hk,I4 h.2.1 hk,by have:=AT hk;have:=Az e;have:=h.2.2;omega⟩
theorem CM.two3 {e:Ex} (h:CM e):BW He e:=h.1.mono (fun _ h=>Hg h) (AH e) e (V6 _)
def FU (x y:Ex):Bool:=(CX x).2&&(CX y).2&&(CX x).1.toList==(CX y).1.toList
def Mj (x y o:Ex):Bool:=Fw y o&&(BJ y||FU x y)
def NG (c o:Ex):Bool:=decide (c.kind=0)&& !H7 c 0&&Fw c o
theorem Hm {x y:Ex} (hx:CM x) (hy:CM y) {w:World} {csx csy:List Value} (hrx:BU w w.heap.size x csx) (hry:BU w w.heap.size y csy):
  Calls Tryz.prog 13 #[.agg csx.toArray,.agg csy.toArray] w fun e' w'=>e'= .returned (.bool (Fw x y))∧A4 w w':=Nn 1000000 x y hx.2.2 hy.2.2 (V6 _) hx.2.1 hy.2.1 w csx csy hrx hry
theorem Qo {x:Ex} (hx:CM x) {w:World} {csx:List Value} (hrx:BU w w.heap.size x csx):
  Calls Tryz.prog 87 #[.agg csx.toArray] w fun e' w'=>e'= .returned (.bool (BJ x))∧A4 w w':=Dh (AH x) x (V6 _) hx.two3 w csx hrx
theorem JW {x y:Ex} (hx:CM x) (hy:CM y) {w:World} {csx csy:List Value} (hwt:DI w) (hot:EB w) (hrx:BU w w.heap.size x csx) (hry:BU w w.heap.size y csy):
  Calls Tryz.prog 88 #[.agg csx.toArray,.agg csy.toArray] w fun e' w'=>e'= .returned (.bool (FU x y))∧A4 w w':=by
 obtain⟨hb1,hb2,hG⟩:=CI w 29 29 csx.toArray csy.toArray;have HA:=V3 (fun w' (g:A4 w w')=>E8 (AH x) x (V6 _) hx.2.2 hx.1 w' csx (hwt.grew g) (hot.keep g (fun h=>h)) (hrx.grew g));have HB:=V3 (fun w' (g:A4 w w')=>E8 (AH y) y (V6 _) hy.2.2 hy.1 w' csy (hwt.grew g) (hot.keep g (fun h=>h)) (hry.grew g));have HL:=V3 (V5 (BC hrx) (BC hry));obtain⟨r,hr⟩:∃r,FU x y=r:=⟨_,rfl⟩;rw[hr];unfold FU at hr;obtain⟨⟨la,ka⟩,hsa⟩:∃p,CX x=p:=⟨_,rfl⟩;obtain⟨⟨lb,kb⟩,hsb⟩:∃p,CX y=p:=⟨_,rfl⟩;rw[hsa,hsb]at hr;rw[hsa]at HA;rw[hsb]at HB;dsimp only at hr HA HB;have HR:=V3 hr;clear hx hy hwt hot hrx hry hsa hsb hr;go_enter Tryz.func88,Tryz.ntmps88;go_upto_region 1 with fail;change Code.wp _ _ _ _ ((w.alloc (.cells csx.toArray 29)).alloc (.cells csy.toArray 29));generalize (w.alloc (.cells csx.toArray 29)).alloc (.cells csy.toArray 29)=w1 at*;have H0:=V3 hG;have HG:=V3 (VU w1);have HB1:=V3 hb1;have HB2:=V3 hb2;have HB1R:=V3 (show ∀w',A4 w1 w'→w'.rangeAt w.heap.size 0 csx from fun w' g=>(hb1.grew g).rangeN 0 _ (by simp));have HB2R:=V3 (show ∀w',A4 w1 w'→w'.rangeAt (w.heap.size+1) 0 csy from fun w' g=>(hb2.grew g).rangeN 0 _ (by simp));clear hb1 hb2 hG;go_upto_region 3 with(first|(refine lM (.tmp 2) (HB1R.out _ HG.out) rX ?_ (hl:=HL.out.1))|(go_at_call 121;(with_reducible refine(HA.out _ (H0.out.trans HG.out)).mono ?_);rintro e3 w2 ⟨rfl,k2⟩;have HG2:=V3 (HG.out.trans k2);clear k2)|(refine lM (.tmp 3) (HB2R.out _ HG2.out) rX ?_ (hl:=HL.out.2))|(go_at_call 121;(with_reducible refine(HB.out _ (H0.out.trans HG2.out)).mono ?_);rintro e3 w3 ⟨rfl,k2⟩;have HG3:=V3 (HG2.out.trans k2);clear k2)|fail);have hr:=HR.out;clear HR HA HB;rcases ka with _|_
 ·have h9:r=false:=by rw[←hr];rfl
  subst h9;clear hr;go_wp2_with fail;go_ret;exact⟨rfl,H0.out.trans HG3.out⟩
 rcases kb with _|_
 ·have h9:r=false:=by rw[←hr];rfl
  subst h9;clear hr;go_wp2_with fail;go_ret;exact⟨rfl,H0.out.trans HG3.out⟩
 have hz:(la.toList==lb.toList)=r:=by rw[←hr];rfl
 clear hr;rcases r with _|_
 ·go_wp2_with fail;go_ret;exact⟨rfl,H0.out.trans HG3.out⟩
 go_wp2_with fail;go_ret;exact⟨rfl,H0.out.trans HG3.out⟩
theorem CQ {x y o:Ex} (hx:CM x) (hy:CM y) (ho:CM o) {w:World} {csx csy cso:List Value} (hwt:DI w) (hot:EB w) (hrx:BU w w.heap.size x csx) (hry:BU w w.heap.size y csy) (hro:BU w w.heap.size o cso):
  Calls Tryz.prog 86 #[.agg csx.toArray,.agg csy.toArray,.agg cso.toArray] w fun e' w'=>e'= .returned (.bool (Mj x y o))∧A4 w w':=by
 obtain⟨hb1,hb2,hb3,hG⟩:=Ci w 29 29 29 csx.toArray csy.toArray cso.toArray;have HA:=V3 (fun w' (g:A4 w w')=>Hm hy ho (hry.grew g) (hro.grew g));have HB:=V3 (fun w' (g:A4 w w')=>Qo hy (hry.grew g));have HC:=V3 (fun w' (g:A4 w w')=>JW hx hy (hwt.grew g) (hot.keep g (fun h=>h)) (hrx.grew g) (hry.grew g));have HLx:=V3 (BC hrx);have HLy:=V3 (BC hry);have HLo:=V3 (BC hro);have hF:Mj x y o=(Fw y o&&(BJ y||FU x y)):=rfl;obtain⟨p,hp⟩:∃r,Fw y o=r:=⟨_,rfl⟩;obtain⟨q,hq⟩:∃r,BJ y=r:=⟨_,rfl⟩;obtain⟨r,hr⟩:∃r,FU x y=r:=⟨_,rfl⟩;rw[hF,hp,hq,hr];rw[hp]at HA;rw[hq]at HB;rw[hr]at HC;clear hx hy ho hwt hot hrx hry hro hF hp hq hr;go_enter Tryz.func86,Tryz.ntmps86;go_upto_region 1 with fail;change Code.wp _ _ _ _ (((w.alloc (.cells csx.toArray 29)).alloc (.cells csy.toArray 29)).alloc (.cells cso.toArray 29));generalize ((w.alloc (.cells csx.toArray 29)).alloc (.cells csy.toArray 29)).alloc (.cells cso.toArray 29)=w1 at*;have H0:=V3 hG;have HB1:=V3 hb1;have HB2:=V3 hb2;have HB3:=V3 hb3;clear hb1 hb2 hb3 hG;rcases p with _|_
 ·refine AP [.agg csy.toArray,.agg cso.toArray,.bool false,.bool false,undef,undef,undef,undef,undef,undef,undef,.bool false,.bool false] ?_ fun w9 hg9=>?_
  ·simp only[nz];exact hN (hl:=HLy.out) (fun w' hg=>HB2.out.grew hg) rX (hN (hl:=HLo.out) (fun w' hg=>HB3.out.grew hg) rX (hK (fun w' hg=>HA.out _ (H0.out.trans hg)) (hP (hS (hS (hS (hS (hS (hS (hS (hP (hP AK))))))))))))
  simp only[nz];go_wp2_with fail;go_ret;exact⟨rfl,H0.out.trans hg9⟩
 rcases q with _|_
 ·refine AP [.agg csy.toArray,.agg cso.toArray,.bool true,.bool true,.agg csy.toArray,.bool false,.bool false,.agg csx.toArray,.agg csy.toArray,.bool r,.bool r,.bool r,.bool r] ?_ fun w9 hg9=>?_
  ·simp only[nz];exact hN (hl:=HLy.out) (fun w' hg=>HB2.out.grew hg) rX (hN (hl:=HLo.out) (fun w' hg=>HB3.out.grew hg) rX (hK (fun w' hg=>HA.out _ (H0.out.trans hg)) (hP (hN (hl:=HLy.out) (fun w' hg=>HB2.out.grew hg) rX (hK (fun w' hg=>HB.out _ (H0.out.trans hg)) (hP (hN (hl:=HLx.out) (fun w' hg=>HB1.out.grew hg) rX (hN (hl:=HLy.out) (fun w' hg=>HB2.out.grew hg) rX (hK (fun w' hg=>HC.out _ (H0.out.trans hg)) (hP (hP (hP AK))))))))))))
  simp only[nz];go_wp2_with fail;go_ret;exact⟨rfl,H0.out.trans hg9⟩
 refine AP [.agg csy.toArray,.agg cso.toArray,.bool true,.bool true,.agg csy.toArray,.bool true,.bool true,undef,undef,undef,.bool true,.bool true,.bool true] ?_ fun w9 hg9=>?_
 ·simp only[nz];exact hN (hl:=HLy.out) (fun w' hg=>HB2.out.grew hg) rX (hN (hl:=HLo.out) (fun w' hg=>HB3.out.grew hg) rX (hK (fun w' hg=>HA.out _ (H0.out.trans hg)) (hP (hN (hl:=HLy.out) (fun w' hg=>HB2.out.grew hg) rX (hK (fun w' hg=>HB.out _ (H0.out.trans hg)) (hP (hS (hS (hS (hP (hP (hP AK))))))))))))
 simp only[nz];go_wp2_with fail;go_ret;exact⟨rfl,H0.out.trans hg9⟩
theorem DX {x o:Ex} (hx:CM x) (ho:CM o) {w:World} {csx cso:List Value} (hrx:BU w w.heap.size x csx) (hro:BU w w.heap.size o cso):
  Calls Tryz.prog 90 #[.agg csx.toArray,.agg cso.toArray] w fun e' w'=>e'= .returned (.bool (NG x o))∧A4 w w':=by
 obtain⟨hb1,hb2,hG⟩:=CI w 29 29 csx.toArray cso.toArray;have HA:=V3 (fun w' (g:A4 w w')=>Hm hx ho (hrx.grew g) (hro.grew g));have HB:=V3 (fun w' (g:A4 w w')=>CK x 0 csx w' _ (hrx.grew g));have HLx:=V3 (BC hrx);have HLo:=V3 (BC hro);have hF:NG x o=(decide (x.kind=0)&& !H7 x 0&&Fw x o):=rfl;obtain⟨q,hq⟩:∃r,H7 x 0=r:=⟨_,rfl⟩;obtain⟨r,hr⟩:∃r,Fw x o=r:=⟨_,rfl⟩;have hc0:csx.toArray[0]? =some (.int .i64 x.kind):=by
  obtain⟨vm,vb,vk,rfl, -⟩:=hrx.open_;rfl
 obtain⟨p,hp⟩:∃r,decide (x.kind=0)=r:=⟨_,rfl⟩;rw[hF,hp,hq,hr];rw[hr]at HA;rw[hq]at HB;clear hx ho hrx hro hF hq hr;go_enter Tryz.func90,Tryz.ntmps90;go_upto_region 1 with fail;change Code.wp _ _ _ _ ((w.alloc (.cells csx.toArray 29)).alloc (.cells cso.toArray 29));generalize (w.alloc (.cells csx.toArray 29)).alloc (.cells cso.toArray 29)=w1 at*;have H0:=V3 hG;have HB1:=V3 hb1;have HB2:=V3 hb2;have HC:=V3 (fun w' (g:A4 w1 w')=>(show w'.cell? ⟨w.heap.size,0,none⟩=some (.int .i64 x.kind)from((hb1.grew g).cell 0).trans hc0));have hpb:(x.kind==0)=p:=by rw[←hp];by_cases h:x.kind=0<;>simp[h]
 have HP:=V3 hpb;clear hb1 hb2 hG hc0 hp hpb;rcases p with _|_
 ·refine AP [.pointer (some ⟨w.heap.size,0,none⟩),.int .i64 x.kind,.bool false,.bool false,undef,undef,undef,.bool false,.bool false,undef,undef,undef,.bool false,.bool false] ?_ fun w9 hg9=>?_
  ·simp only[nz];refine hP (hR (fun w' hg=>?_) ?_)
   ·have hc:=HC.out w' hg;exact lO (.tmp 5) hc
   refine hR (fun w' hg=>?_) ?_
   ·go_simp;first|exact⟨V4.1 HP.out,VU _⟩|exact⟨VC.1 HP.out,VU _⟩
   exact hP (hS (hS (hS (hP (hP (hS (hS (hS (hP (hP AK))))))))))
  simp only[nz];go_wp2_with fail;go_ret;exact⟨rfl,H0.out.trans hg9⟩
 rcases q with _|_
 ·refine AP [.pointer (some ⟨w.heap.size,0,none⟩),.int .i64 x.kind,.bool true,.bool true,.agg csx.toArray,.bool false,.bool true,.bool true,.bool true,.agg csx.toArray,.agg cso.toArray,.bool r,.bool r,.bool r] ?_ fun w9 hg9=>?_
  ·simp only[nz];refine hP (hR (fun w' hg=>?_) ?_)
   ·have hc:=HC.out w' hg;exact lO (.tmp 5) hc
   refine hR (fun w' hg=>?_) ?_
   ·go_simp;first|exact⟨V4.1 HP.out,VU _⟩|exact⟨VC.1 HP.out,VU _⟩
   exact hP (hN (hl:=HLx.out) (fun w' hg=>HB1.out.grew hg) rX (hK (fun w' hg=>HB.out _ (H0.out.trans hg)) (hP (hP (hP (hN (hl:=HLx.out) (fun w' hg=>HB1.out.grew hg) rX (hN (hl:=HLo.out) (fun w' hg=>HB2.out.grew hg) rX (hK (fun w' hg=>HA.out _ (H0.out.trans hg)) (hP (hP AK))))))))))
  simp only[nz];go_wp2_with fail;go_ret;exact⟨rfl,H0.out.trans hg9⟩
 refine AP [.pointer (some ⟨w.heap.size,0,none⟩),.int .i64 x.kind,.bool true,.bool true,.agg csx.toArray,.bool true,.bool false,.bool false,.bool false,undef,undef,undef,.bool false,.bool false] ?_ fun w9 hg9=>?_
 ·simp only[nz];refine hP (hR (fun w' hg=>?_) ?_)
  ·have hc:=HC.out w' hg;exact lO (.tmp 5) hc
  refine hR (fun w' hg=>?_) ?_
  ·go_simp;first|exact⟨V4.1 HP.out,VU _⟩|exact⟨VC.1 HP.out,VU _⟩
  exact hP (hN (hl:=HLx.out) (fun w' hg=>HB1.out.grew hg) rX (hK (fun w' hg=>HB.out _ (H0.out.trans hg)) (hP (hP (hP (hS (hS (hS (hP (hP AK))))))))))
 simp only[nz];go_wp2_with fail;go_ret;exact⟨rfl,H0.out.trans hg9⟩
def zE:Ex:= .mk 0 0 0 0 0 0 0 ⟨#[]⟩ [] [] []
def Gq (e:Ex) (f:Int):Bool:=decide (e.kind=3∧e.fn=f)
def pt1 (e:Ex) (f:Int):Ex:=if Gq e f then e.kids.getD 0 zE else zE
def pt2 (e:Ex) (f:Int):Ex:=if Gq e f then e.kids.getD 1 zE else zE
theorem Qs (w:World) (Q:Nat→Prop):AZ w Q zE (AJ 0 0):=AZ.mk_ (e:=zE) (Ba.nil _ _ _) (Ba.nil _ _ _) (EX.nil _ _)
theorem SW:CM zE:=⟨B3.2 ⟨.inl ⟨rfl,rfl⟩,fun k hk=>nomatch hk⟩,by unfold zE El EW;exact⟨Nat.zero_le _,Nat.zero_le _,trivial⟩,by decide⟩
theorem CM.top2 {e:Ex} (h:CM e) (h3:e.kind=3):∃a b,e.kids=[a,b]:=Hg h.1.top h3
theorem CM.pt1 {e:Ex} (h:CM e) (f:Int):CM (pt1 e f):=by
 unfold Go.Proofs.YthpflelgbadkcaaGreatDoor.pt1;split
 ·rename_i ho
  obtain⟨h3, -⟩:=VH ho;obtain⟨a,b,hk⟩:=h.top2 h3;rw[hk];exact h.kid (by rw[hk];exact List.mem_cons_self)
 exact SW
theorem CM.pt2 {e:Ex} (h:CM e) (f:Int):CM (pt2 e f):=by
 unfold Go.Proofs.YthpflelgbadkcaaGreatDoor.pt2;split
 ·rename_i ho
  obtain⟨h3, -⟩:=VH ho;obtain⟨a,b,hk⟩:=h.top2 h3;rw[hk];exact h.kid (by rw[hk];simp)
 exact SW
theorem KR {w:World} {Q:Nat→Prop} {ea eb:Ex} {es:List Ex} {v:Value} (hT:EX w Q v es) (hk:es=[ea,eb]):∃b o c ca cb,v= .slice (some ⟨b,o,none⟩) 2 c∧Q b∧w.rangeAt b o ca∧w.rangeAt b (o+11) cb∧AZ w Q ea ca∧AZ w Q eb cb:=by
 subst hk;obtain⟨A,n,c,rfl,hn2, -⟩:=hT.slice;obtain rfl:n=2:=by rw[hn2];rfl
 obtain⟨b,o,ca,rfl,hbb,hra,hea⟩:=hT.at_ (j:=0) (e:=ea) rfl;obtain⟨b',o',cb,hbo, -,hrb,heb⟩:=hT.at_ (j:=1) (e:=eb) rfl;simp only[VQ,Addr.mk.injEq,and_true]at hbo;obtain⟨rfl,rfl⟩:=hbo;rw[Nat.zero_mul,Nat.add_zero]at hra;rw[Nat.one_mul]at hrb;exact⟨b,o,c,ca,cb,rfl,hbb,hra,hrb,hea,heb⟩
theorem AZ.grewQ {w w':World} {Q:Nat→Prop} {e:Ex} {cs:List Value} (h:AZ w Q e cs) (hq:∀b,Q b→b<w.heap.size) (g:A4 w w'):AZ w' Q e cs:=AZ.keep (S:=fun _=>False) (fun b hb=>⟨hq b hb,fun h=>h,hb⟩) g e cs h
theorem AZ.len {w:World} {Q:Nat→Prop} {e:Ex} {cs:List Value} (h:AZ w Q e cs):cs.length=11:=by
 obtain⟨vm,vb,vk,rfl, -⟩:=h.open_;exact Dn _ _ _ _
def T9 (e:Ex) (f:Int) (Q:Nat→Prop) (w:World) (e':Ending) (w':World):Prop:=∃ca cb,e'= .returned (.tuple #[.agg ca.toArray,.agg cb.toArray,.bool (Gq e f)])∧AZ w' Q (pt1 e f) ca∧AZ w' Q (pt2 e f) cb∧A4 w w'
theorem Hi {e:Ex} (he:CM e) (f:Int) {Q:Nat→Prop} {w:World} {cs:List Value} (hq:∀b,Q b→b<w.heap.size) (hr:AZ w Q e cs):Calls Tryz.prog 89 #[.agg cs.toArray,.int .i64 f] w (T9 e f Q w):=by
 by_cases ho:e.kind=3∧e.fn=f
 ·have hop:Gq e f=true:=decide_eq_true ho;obtain⟨a,b,hk⟩:=he.top2 ho.1;obtain⟨vm,vb,vk,rfl, -, -,hT⟩:=hr.open_;obtain⟨b',o,c,ca,cb,rfl,hbq,hra,hrb,hea,heb⟩:=KR hT hk;refine(OY e f vm vb b' o c ca cb w ho.1 ho.2 (hq _ hbq) hra hrb hea.len heb.len (fun v hv=>?_) (fun v hv=>?_)).mono ?_
  ·exact Ap (AZ.keep (S:=fun _=>False) (Q':=fun _=>True) (fun b hb=>⟨hq b hb,fun h=>h,trivial⟩) (VU w) _ _ hea) v hv
  ·exact Ap (AZ.keep (S:=fun _=>False) (Q':=fun _=>True) (fun b hb=>⟨hq b hb,fun h=>h,trivial⟩) (VU w) _ _ heb) v hv
  rintro e' w' ⟨rfl,g⟩;refine⟨ca,cb,by rw[hop],?_,?_,g⟩
  ·rw[pt1,hop,VN rfl,hk];exact hea.grewQ hq g
  rw[pt2,hop,VN rfl,hk];exact heb.grewQ hq g
 have hop:Gq e f=false:=VI ho;refine(Qe e f cs w w.heap.size (AZ.toB hq e cs hr) ho).mono ?_;rintro e' w' ⟨rfl,g⟩;refine⟨AJ 0 0,AJ 0 0,by rw[hop],?_,?_,g⟩
 ·rw[pt1,hop,VM (by decide)];exact Qs _ _
 rw[pt2,hop,VM (by decide)];exact Qs _ _
theorem AZ.one_ {w:World} {Q:Nat→Prop} {e:Ex} {cs:List Value} (h:AZ w Q e cs) (hq:∀b,Q b→b<w.heap.size):∀v∈cs,v.oneCell'=true:=Ap (AZ.keep (S:=fun _=>False) (Q':=fun _=>True) (fun b hb=>⟨hq b hb,fun h=>h,trivial⟩) (VU w) _ _ h)
def I5 (e x:Ex):Bool:=Gq e 2&&((H7 (pt2 e 2) 0&&FU x (pt1 e 2))||(H7 (pt1 e 2) 0&&FU x (pt2 e 2)))
theorem G9 {e x:Ex} (he:CM e) (hx:CM x) {w:World} {cse csx:List Value} (hwt:DI w) (hot:EB w) (hre:BU w w.heap.size e cse) (hrx:BU w w.heap.size x csx):
  Calls Tryz.prog 91 #[.agg cse.toArray,.agg csx.toArray] w fun e' w'=>e'= .returned (.bool (I5 e x))∧A4 w w':=by
 obtain⟨hb1,hb2,hG⟩:=CI w 29 29 cse.toArray csx.toArray;have hreQ:AZ w (fun b=>b<w.heap.size) e cse:=BU.toQ (fun _ h=>h) _ _ hre;have HP:=V3 (fun w' (g:A4 w w')=>Hi he 2 (Q:=fun b=>b<w.heap.size) (fun b hb=>VA hb g.size) (hreQ.grewQ (fun _ h=>h) g));have HC:=V3 (V5 hwt (V5 hot (V5 hrx (V5 he hx))));have HLe:=V3 (BC hre);have HLx:=V3 (BC hrx);obtain⟨r,hr⟩:∃r,I5 e x=r:=⟨_,rfl⟩;rw[hr];have HR:=V3 hr;clear he hx hwt hot hre hrx hreQ hr;go_enter Tryz.func91,Tryz.ntmps91;go_upto_region 1 with fail;change Code.wp _ _ _ _ ((w.alloc (.cells cse.toArray 29)).alloc (.cells csx.toArray 29));generalize (w.alloc (.cells cse.toArray 29)).alloc (.cells csx.toArray 29)=w1 at*;have HB1:=V3 (show ∀w',A4 w1 w'→w'.rangeAt w.heap.size 0 cse from fun w' g=>(hb1.grew g).rangeN 0 _ (by simp));have HG0:=V3 hG;have HB2:=V3 hb2;clear hb1 hb2 hG;go_upto_region 2 with(first|(refine lM (.tmp 2) (HB1.out _ (VU _)) rX ?_ (hl:=HLe.out))|(go_at_call 89;(with_reducible refine(HP.out _ HG0.out).mono ?_);rintro e3 wa ⟨ca,cb,rfl,hca,hcb,ka⟩;obtain⟨y1,y2,y3⟩:=CI wa 29 29 (AJ 0 0).toArray (AJ 0 0).toArray;have hla:=hca.len;have hlb:=hcb.len;have hzs:=VD HG0.out.size ka.size;have hoa:=hca.one_ (fun b hb=>VA hb hzs);have hob:=hcb.one_ (fun b hb=>VA hb hzs))|(refine sN (.tmp 5) (.tmp 11) ca y1 rX ?_ (hl:=hla) (h1:=hoa);intro wb hb5 k5 d5;have hb5':=y2.keep k5 (by omega))|(refine sN (.tmp 6) (.tmp 12) cb hb5' rX ?_ (hl:=hlb) (h1:=hob);intro wc hb6 k6 d6;have hb56:=hb5.keep k6 (by omega))|fail);have hac:A4 wa wc:=VV (VV y3 k5 fun i hi e=>by omega) k6 fun i hi e=>by omega
 have h0c:A4 w wc:=(HG0.out.trans ka).trans hac;have H0:=V3 h0c;have HBx:=V3 (HB2.out.grew (ka.trans hac));have HBa:=V3 hb56;have HBb:=V3 hb6;have hqz:∀w',A4 w w'→∀b,b<w.heap.size→b<w'.heap.size:=fun w' g b hb=>VA hb g.size
 have hca':BU wc wc.heap.size (pt1 e 2) ca:=AZ.toB (hqz _ h0c) _ _ (hca.grewQ (fun b hb=>VA hb hzs) hac);have hcb':BU wc wc.heap.size (pt2 e 2) cb:=AZ.toB (hqz _ h0c) _ _ (hcb.grewQ (fun b hb=>VA hb hzs) hac);have HI2:=V3 (fun w' (g:A4 wc w')=>CK (pt2 e 2) 0 cb w' _ (hcb'.grew g));have HI1:=V3 (fun w' (g:A4 wc w')=>CK (pt1 e 2) 0 ca w' _ (hca'.grew g));have HS1:=V3 (fun w' (g:A4 wc w')=>JW HC.out.2.2.2.2 (HC.out.2.2.2.1.pt1 2) (HC.out.1.grew (h0c.trans g)) (HC.out.2.1.keep (h0c.trans g) (fun h=>h)) (HC.out.2.2.1.grew (h0c.trans g)) (hca'.grew g));have HS2:=V3 (fun w' (g:A4 wc w')=>JW HC.out.2.2.2.2 (HC.out.2.2.2.1.pt2 2) (HC.out.1.grew (h0c.trans g)) (HC.out.2.1.keep (h0c.trans g) (fun h=>h)) (HC.out.2.2.1.grew (h0c.trans g)) (hcb'.grew g));have HLa:=V3 hla;have HLb:=V3 hlb;have hr:=HR.out;unfold I5 at hr;obtain⟨o,ho⟩:∃o,Gq e 2=o:=⟨_,rfl⟩;obtain⟨q2,hq2⟩:∃o,H7 (pt2 e 2) 0=o:=⟨_,rfl⟩;obtain⟨q1,hq1⟩:∃o,H7 (pt1 e 2) 0=o:=⟨_,rfl⟩;obtain⟨s1,hs1⟩:∃o,FU x (pt1 e 2)=o:=⟨_,rfl⟩;obtain⟨s2,hs2⟩:∃o,FU x (pt2 e 2)=o:=⟨_,rfl⟩;rw[ho,hq2,hq1,hs1,hs2]at hr;rw[hq2]at HI2;rw[hq1]at HI1;rw[hs1]at HS1;rw[hs2]at HS2;rw[ho];clear HP HR HC HB1 HB2 hca hcb hca' hcb' hla hlb hoa hob hb56 hb6 hb5 hb5' y1 y2 y3 k5 k6 d5 d6 ka hac h0c hzs hqz ho hq2 hq1 hs1 hs2;generalize wa.heap.size=z at*;rcases o with _|_
 ·refine AP [.bool false,.bool false,undef,undef,undef,undef,undef,undef,undef,undef,undef,undef,undef,undef,undef,undef,undef,undef,.bool false,.bool false] ?_ fun w9 hg9=>?_
  ·simp only[nz];exact hP (hP (hS (hS (hS (hS (hS (hS (hS (hS (hS (hS (hS (hS (hS (hS (hS (hS (hP (hP AK)))))))))))))))))))
  simp only[nz];go_wp2_with fail;go_ret;exact⟨by rw[←hr];simp,H0.out.trans hg9⟩
 rcases q2 with _|_
 ·rcases q1 with _|_
  ·refine AP [.bool true,.bool true,.agg cb.toArray,.bool false,.bool false,undef,undef,undef,.bool false,.bool false,.agg ca.toArray,.bool false,.bool false,undef,undef,undef,.bool false,.bool false,.bool false,.bool false] ?_ fun w9 hg9=>?_
   ·simp only[nz];exact hP (hP (hN (hl:=HLb.out) (fun w' hg=>HBb.out.grew hg) rX (hK (fun w' hg=>HI2.out _ hg) (hP (hS (hS (hS (hP (hP (hN (hl:=HLa.out) (fun w' hg=>HBa.out.grew hg) rX (hK (fun w' hg=>HI1.out _ hg) (hP (hS (hS (hS (hP (hP (hP (hP AK)))))))))))))))))))
   simp only[nz];go_wp2_with fail;go_ret;exact⟨by rw[←hr];simp,H0.out.trans hg9⟩
  refine AP [.bool true,.bool true,.agg cb.toArray,.bool false,.bool false,undef,undef,undef,.bool false,.bool false,.agg ca.toArray,.bool true,.bool true,.agg csx.toArray,.agg cb.toArray,.bool s2,.bool s2,.bool s2,.bool s2,.bool s2] ?_ fun w9 hg9=>?_
  ·simp only[nz];exact hP (hP (hN (hl:=HLb.out) (fun w' hg=>HBb.out.grew hg) rX (hK (fun w' hg=>HI2.out _ hg) (hP (hS (hS (hS (hP (hP (hN (hl:=HLa.out) (fun w' hg=>HBa.out.grew hg) rX (hK (fun w' hg=>HI1.out _ hg) (hP (hN (hl:=HLx.out) (fun w' hg=>HBx.out.grew hg) rX (hN (hl:=HLb.out) (fun w' hg=>HBb.out.grew hg) rX (hK (fun w' hg=>HS2.out _ hg) (hP (hP (hP (hP AK)))))))))))))))))))
  simp only[nz];go_wp2_with fail;go_ret;exact⟨by rw[←hr];simp,H0.out.trans hg9⟩
 rcases s1 with _|_
 ·rcases q1 with _|_
  ·refine AP [.bool true,.bool true,.agg cb.toArray,.bool true,.bool true,.agg csx.toArray,.agg ca.toArray,.bool false,.bool false,.bool false,.agg ca.toArray,.bool false,.bool false,undef,undef,undef,.bool false,.bool false,.bool false,.bool false] ?_ fun w9 hg9=>?_
   ·simp only[nz];exact hP (hP (hN (hl:=HLb.out) (fun w' hg=>HBb.out.grew hg) rX (hK (fun w' hg=>HI2.out _ hg) (hP (hN (hl:=HLx.out) (fun w' hg=>HBx.out.grew hg) rX (hN (hl:=HLa.out) (fun w' hg=>HBa.out.grew hg) rX (hK (fun w' hg=>HS1.out _ hg) (hP (hP (hN (hl:=HLa.out) (fun w' hg=>HBa.out.grew hg) rX (hK (fun w' hg=>HI1.out _ hg) (hP (hS (hS (hS (hP (hP (hP (hP AK)))))))))))))))))))
   simp only[nz];go_wp2_with fail;go_ret;exact⟨by rw[←hr];simp,H0.out.trans hg9⟩
  refine AP [.bool true,.bool true,.agg cb.toArray,.bool true,.bool true,.agg csx.toArray,.agg ca.toArray,.bool false,.bool false,.bool false,.agg ca.toArray,.bool true,.bool true,.agg csx.toArray,.agg cb.toArray,.bool s2,.bool s2,.bool s2,.bool s2,.bool s2] ?_ fun w9 hg9=>?_
  ·simp only[nz];exact hP (hP (hN (hl:=HLb.out) (fun w' hg=>HBb.out.grew hg) rX (hK (fun w' hg=>HI2.out _ hg) (hP (hN (hl:=HLx.out) (fun w' hg=>HBx.out.grew hg) rX (hN (hl:=HLa.out) (fun w' hg=>HBa.out.grew hg) rX (hK (fun w' hg=>HS1.out _ hg) (hP (hP (hN (hl:=HLa.out) (fun w' hg=>HBa.out.grew hg) rX (hK (fun w' hg=>HI1.out _ hg) (hP (hN (hl:=HLx.out) (fun w' hg=>HBx.out.grew hg) rX (hN (hl:=HLb.out) (fun w' hg=>HBb.out.grew hg) rX (hK (fun w' hg=>HS2.out _ hg) (hP (hP (hP (hP AK)))))))))))))))))))
  simp only[nz];go_wp2_with fail;go_ret;exact⟨by rw[←hr];simp,H0.out.trans hg9⟩
 refine AP [.bool true,.bool true,.agg cb.toArray,.bool true,.bool true,.agg csx.toArray,.agg ca.toArray,.bool true,.bool true,.bool true,undef,undef,undef,undef,undef,undef,undef,.bool true,.bool true,.bool true] ?_ fun w9 hg9=>?_
 ·simp only[nz];exact hP (hP (hN (hl:=HLb.out) (fun w' hg=>HBb.out.grew hg) rX (hK (fun w' hg=>HI2.out _ hg) (hP (hN (hl:=HLx.out) (fun w' hg=>HBx.out.grew hg) rX (hN (hl:=HLa.out) (fun w' hg=>HBa.out.grew hg) rX (hK (fun w' hg=>HS1.out _ hg) (hP (hP (hS (hS (hS (hS (hS (hS (hS (hP (hP (hP AK)))))))))))))))))))
 simp only[nz];go_wp2_with fail;go_ret;exact⟨by rw[←hr];simp,H0.out.trans hg9⟩
def CU (r:Option Ex) (Q:Nat→Prop) (w:World) (e':Ending) (w':World):Prop:=∃cs,e'= .returned (.tuple #[.agg cs.toArray,.bool r.isSome])∧AZ w' (fun b=>Q b∨(w.heap.size≤b∧b<w'.heap.size)) (r.getD zE) cs∧A4 w w'
theorem DH {r:Option Ex} {e:Ex} (hr:r=some e) {Q:Nat→Prop} {w w7 w8:World} {cs:List Value} (hq:∀b,Q b→b<w.heap.size) (h:AZ w Q e cs) (g:A4 w w7) (k:AA (fun i=>i=w.heap.size+1+1) w7 w8):
  CU r Q w (.returned (.tuple #[.agg cs.toArray,.bool true])) w8:=by
 subst hr;have g8:A4 w w8:=VV g k fun i hi e=>by omega
 exact⟨cs,rfl,AZ.keep (S:=fun _=>False) (fun b hb=>⟨hq b hb,fun h=>h,.inl hb⟩) g8 _ _ h,g8⟩
theorem B2 {r:Option Ex} (hr:r=none) {Q:Nat→Prop} {w w7 w8:World} (g:A4 w w7) (k:AA (fun i=>i=w.heap.size+1+1) w7 w8):
  CU r Q w (.returned (.tuple #[.agg (AJ 0 0).toArray,.bool false])) w8:=by
 subst hr;exact⟨AJ 0 0,rfl,Qs _ _,VV g k fun i hi e=>by omega⟩
def Bn (f:Int) (e1 e2:Ex):Option Ex:=
 let n:Int:=if f=2∨f=3 then 1 else 0
 if H7 e2 n then some e1 else if(f=0∨f=2)∧H7 e1 n=true then some e2 else none
theorem Me {f:Int} {e1 e2:Ex} (h1:CM e1) (h2:CM e2) {Q:Nat→Prop} {w:World} {cs1 cs2:List Value} (hwt:DI w) (hot:EB w) (hq:∀b,Q b→b<w.heap.size) (hr1:AZ w Q e1 cs1) (hr2:AZ w Q e2 cs2):
  Calls Tryz.prog 57 #[.int .i64 f,.agg cs1.toArray,.agg cs2.toArray] w (CU (Bn f e1 e2) Q w):=by
 have HQ:=V3 hq;have HR1:=V3 (fun w' (g:A4 w w')=>hr1.grewQ hq g);have HR2:=V3 (fun w' (g:A4 w w')=>hr2.grewQ hq g);have HE1:=V3 (fun w' (g:A4 w w')=>AZ.toB (fun b hb=>VA (hq b hb) g.size) _ _ (hr1.grewQ hq g));have HE2:=V3 (fun w' (g:A4 w w')=>AZ.toB (fun b hb=>VA (hq b hb) g.size) _ _ (hr2.grewQ hq g));have HL:=V3 (V5 hr1.len hr2.len);have HO:=V3 (V5 (hr1.one_ hq) (hr2.one_ hq));have HT:=V3 (fun w' (g:A4 w w')=>V5 (hwt.grew g) (hot.keep g (fun h=>h)));have HOK:=V3 (V5 h1 h2);obtain⟨hb1,hb2,hb3,hG⟩:=Ci w 29 29 29 cs1.toArray cs2.toArray (AJ 0 0).toArray;clear hq hr1 hr2 h1 h2 hwt hot;go_enter Tryz.func57,Tryz.ntmps57;go_upto_region 1 with fail;change Code.wp _ _ _ _ (((w.alloc (.cells cs1.toArray 29)).alloc (.cells cs2.toArray 29)).alloc (.cells (AJ 0 0).toArray 29));generalize ((w.alloc (.cells cs1.toArray 29)).alloc (.cells cs2.toArray 29)).alloc (.cells (AJ 0 0).toArray 29)=w1 at*;have HB1:=V3 (show ∀w',A4 w1 w'→w'.rangeAt w.heap.size 0 cs1 from fun w' g=>(hb1.grew g).rangeN 0 _ (by simp));have HB2:=V3 (show ∀w',A4 w1 w'→w'.rangeAt (w.heap.size+1) 0 cs2 from fun w' g=>(hb2.grew g).rangeN 0 _ (by simp));have HB3:=V3 hb3;have HG:=V3 hG;have HK:=V3 (VU w1);clear hb1 hb2 hb3 hG;by_cases f2:f=2
 ·subst f2;obtain⟨q2,hq2⟩:∃q,H7 e2 1=q:=⟨_,rfl⟩;obtain⟨q1,hq1⟩:∃q,H7 e1 1=q:=⟨_,rfl⟩;go_upto_region 4 with fail;rcases q2 with _|_
  ·go_upto_region 6 with(first|(refine lM (.tmp 5) (HB2.out _ HK.out) rX ?_ (hl:=HL.out.2))|(go_at_call 85;(with_reducible refine(CK e2 1 cs2 _ _ (HE2.out _ (HG.out.trans HK.out)):Calls _ _ _ _ _).mono ?_);rintro e3 w2 ⟨hret,k2⟩;rw[hq2]at hret;subst hret;have HK2:=V3 (HK.out.trans k2);clear k2)|fail);rcases q1 with _|_
   ·refine AP [(.int .i64 2),.bool false,.bool false,(.int .i64 2),.bool true,.bool true,.bool true,.agg cs1.toArray,.int .i64 1,.bool false,.bool false] ?_ fun w9 hg9=>?_
    ·simp only[nz];refine hP (hR (fun w' hg=>?_) ?_)
     ·go_simp;first|done|exact VU _|exact⟨HF.out.2.2,VU _⟩|exact⟨HF.out.1,VU _⟩
     refine hP (hP (hR (fun w' hg=>?_) ?_))
     ·go_simp;first|done|exact VU _|exact⟨HF.out.2.2,VU _⟩|exact⟨HF.out.1,VU _⟩
     refine hP (hP (hM (hl:=HL.out.1) (fun w' hg=>HB1.out _ (HK2.out.trans hg)) rX (hP (hR (fun w' hg=>?_) ?_))))
     ·go_simp;(with_reducible refine(CK e1 1 cs1 _ _ (HE1.out _ (HG.out.trans (HK2.out.trans hg))):Calls _ _ _ _ _).mono ?_);rintro e wq ⟨rfl,kq⟩;exact⟨by rw[hq1];try rfl,kq⟩
     exact hP AK
    simp only[nz];have HK3:=V3 (HK2.out.trans hg9);go_wp2_with(first|(refine lM (.tmp 5) (HB2.out _ HK3.out) rX ?_ (hl:=HL.out.2))|(refine sN (.tmp 6) (.tmp 30) cs2 (HB3.out.grew HK3.out) rX ?_ (hl:=HL.out.2) (h1:=HO.out.2);intro w8 hb8 k8 d8)|(refine sN (.tmp 6) (.tmp 31) (AJ 0 0) (HB3.out.grew HK3.out) rX ?_;intro w8 hb8 k8 d8)|fail);refine rT rX hb8 ?_;exact B2 (by unfold Bn;simp[hq2,hq1]) (HG.out.trans HK3.out) k8
   refine AP [(.int .i64 2),.bool false,.bool false,(.int .i64 2),.bool true,.bool true,.bool true,.agg cs1.toArray,.int .i64 1,.bool true,.bool true] ?_ fun w9 hg9=>?_
   ·simp only[nz];refine hP (hR (fun w' hg=>?_) ?_)
    ·go_simp;first|done|exact VU _|exact⟨HF.out.2.2,VU _⟩|exact⟨HF.out.1,VU _⟩
    refine hP (hP (hR (fun w' hg=>?_) ?_))
    ·go_simp;first|done|exact VU _|exact⟨HF.out.2.2,VU _⟩|exact⟨HF.out.1,VU _⟩
    refine hP (hP (hM (hl:=HL.out.1) (fun w' hg=>HB1.out _ (HK2.out.trans hg)) rX (hP (hR (fun w' hg=>?_) ?_))))
    ·go_simp;(with_reducible refine(CK e1 1 cs1 _ _ (HE1.out _ (HG.out.trans (HK2.out.trans hg))):Calls _ _ _ _ _).mono ?_);rintro e wq ⟨rfl,kq⟩;exact⟨by rw[hq1];try rfl,kq⟩
    exact hP AK
   simp only[nz];have HK3:=V3 (HK2.out.trans hg9);go_wp2_with(first|(refine lM (.tmp 5) (HB2.out _ HK3.out) rX ?_ (hl:=HL.out.2))|(refine sN (.tmp 6) (.tmp 30) cs2 (HB3.out.grew HK3.out) rX ?_ (hl:=HL.out.2) (h1:=HO.out.2);intro w8 hb8 k8 d8)|(refine sN (.tmp 6) (.tmp 31) (AJ 0 0) (HB3.out.grew HK3.out) rX ?_;intro w8 hb8 k8 d8)|fail);refine rT rX hb8 ?_ (hl:=HL.out.2);exact DH (by unfold Bn;simp[hq2,hq1]) HQ.out (HR2.out _ (VU _)) (HG.out.trans HK3.out) k8
  go_wp2_with(first|(refine lM (.tmp 5) (HB2.out _ HK.out) rX ?_ (hl:=HL.out.2))|(go_at_call 85;(with_reducible refine(CK e2 1 cs2 _ _ (HE2.out _ (HG.out.trans HK.out)):Calls _ _ _ _ _).mono ?_);rintro e3 w2 ⟨hret,k2⟩;rw[hq2]at hret;subst hret;have HK2:=V3 (HK.out.trans k2);clear k2)|(refine lM (.tmp 4) (HB1.out _ HK2.out) rX ?_ (hl:=HL.out.1))|(refine sN (.tmp 6) (.tmp 18) cs1 (HB3.out.grew HK2.out) rX ?_ (hl:=HL.out.1) (h1:=HO.out.1);intro w8 hb8 k8 d8)|fail);refine rT rX hb8 ?_ (hl:=HL.out.1);exact DH (by unfold Bn;simp[hq2,hq1]) HQ.out (HR1.out _ (VU _)) (HG.out.trans HK2.out) k8
 have t2:(f==2)=false:=by rw[V4];exact f2
 by_cases f3:f=3
 ·subst f3;obtain⟨q2,hq2⟩:∃q,H7 e2 1=q:=⟨_,rfl⟩;obtain⟨q1,hq1⟩:∃q,H7 e1 1=q:=⟨_,rfl⟩;go_upto_region 4 with fail;rcases q2 with _|_
  ·go_upto_region 6 with(first|(refine lM (.tmp 5) (HB2.out _ HK.out) rX ?_ (hl:=HL.out.2))|(go_at_call 85;(with_reducible refine(CK e2 1 cs2 _ _ (HE2.out _ (HG.out.trans HK.out)):Calls _ _ _ _ _).mono ?_);rintro e3 w2 ⟨hret,k2⟩;rw[hq2]at hret;subst hret;have HK2:=V3 (HK.out.trans k2);clear k2)|fail);refine AP [(.int .i64 3),.bool false,.bool false,(.int .i64 3),.bool false,.bool false,.bool false,undef,undef,undef,.bool false] ?_ fun w9 hg9=>?_
   ·simp only[nz];refine hP (hR (fun w' hg=>?_) ?_)
    ·go_simp;first|done|exact VU _|exact⟨HF.out.2.2,VU _⟩|exact⟨HF.out.1,VU _⟩
    refine hP (hP (hR (fun w' hg=>?_) ?_))
    ·go_simp;first|done|exact VU _|exact⟨HF.out.2.2,VU _⟩|exact⟨HF.out.1,VU _⟩
    exact hP (hP (hS (hS (hS (hP AK)))))
   simp only[nz];have HK3:=V3 (HK2.out.trans hg9);go_wp2_with(first|((refine sN (.tmp 6) (.tmp 31) (AJ 0 0) (HB3.out.grew HK3.out) rX ?_;intro w8 hb8 k8 d8))|fail);refine rT rX hb8 ?_;exact B2 (by unfold Bn;simp[hq2,hq1]) (HG.out.trans HK3.out) k8
  go_wp2_with(first|(refine lM (.tmp 5) (HB2.out _ HK.out) rX ?_ (hl:=HL.out.2))|(go_at_call 85;(with_reducible refine(CK e2 1 cs2 _ _ (HE2.out _ (HG.out.trans HK.out)):Calls _ _ _ _ _).mono ?_);rintro e3 w2 ⟨hret,k2⟩;rw[hq2]at hret;subst hret;have HK2:=V3 (HK.out.trans k2);clear k2)|(refine lM (.tmp 4) (HB1.out _ HK2.out) rX ?_ (hl:=HL.out.1))|(refine sN (.tmp 6) (.tmp 18) cs1 (HB3.out.grew HK2.out) rX ?_ (hl:=HL.out.1) (h1:=HO.out.1);intro w8 hb8 k8 d8)|fail);refine rT rX hb8 ?_ (hl:=HL.out.1);exact DH (by unfold Bn;simp[hq2,hq1]) HQ.out (HR1.out _ (VU _)) (HG.out.trans HK2.out) k8
 have t3:(f==3)=false:=by rw[V4];exact f3
 by_cases f0:f=0
 ·subst f0;obtain⟨q2,hq2⟩:∃q,H7 e2 0=q:=⟨_,rfl⟩;obtain⟨q1,hq1⟩:∃q,H7 e1 0=q:=⟨_,rfl⟩;go_upto_region 4 with fail;rcases q2 with _|_
  ·go_upto_region 6 with(first|(refine lM (.tmp 5) (HB2.out _ HK.out) rX ?_ (hl:=HL.out.2))|(go_at_call 85;(with_reducible refine(CK e2 0 cs2 _ _ (HE2.out _ (HG.out.trans HK.out)):Calls _ _ _ _ _).mono ?_);rintro e3 w2 ⟨hret,k2⟩;rw[hq2]at hret;subst hret;have HK2:=V3 (HK.out.trans k2);clear k2)|fail);rcases q1 with _|_
   ·refine AP [(.int .i64 0),.bool true,.bool true,undef,undef,.bool true,.bool true,.agg cs1.toArray,.int .i64 0,.bool false,.bool false] ?_ fun w9 hg9=>?_
    ·simp only[nz];refine hP (hR (fun w' hg=>?_) ?_)
     ·go_simp;first|done|exact VU _|exact⟨HF.out.2.2,VU _⟩|exact⟨HF.out.1,VU _⟩
     refine hP (hS (hS (hP (hP (hM (hl:=HL.out.1) (fun w' hg=>HB1.out _ (HK2.out.trans hg)) rX (hP (hR (fun w' hg=>?_) ?_)))))))
     ·go_simp;(with_reducible refine(CK e1 0 cs1 _ _ (HE1.out _ (HG.out.trans (HK2.out.trans hg))):Calls _ _ _ _ _).mono ?_);rintro e wq ⟨rfl,kq⟩;exact⟨by rw[hq1];try rfl,kq⟩
     exact hP AK
    simp only[nz];have HK3:=V3 (HK2.out.trans hg9);go_wp2_with(first|(refine lM (.tmp 5) (HB2.out _ HK3.out) rX ?_ (hl:=HL.out.2))|(refine sN (.tmp 6) (.tmp 30) cs2 (HB3.out.grew HK3.out) rX ?_ (hl:=HL.out.2) (h1:=HO.out.2);intro w8 hb8 k8 d8)|(refine sN (.tmp 6) (.tmp 31) (AJ 0 0) (HB3.out.grew HK3.out) rX ?_;intro w8 hb8 k8 d8)|fail);refine rT rX hb8 ?_;exact B2 (by unfold Bn;simp[hq2,hq1]) (HG.out.trans HK3.out) k8
   refine AP [(.int .i64 0),.bool true,.bool true,undef,undef,.bool true,.bool true,.agg cs1.toArray,.int .i64 0,.bool true,.bool true] ?_ fun w9 hg9=>?_
   ·simp only[nz];refine hP (hR (fun w' hg=>?_) ?_)
    ·go_simp;first|done|exact VU _|exact⟨HF.out.2.2,VU _⟩|exact⟨HF.out.1,VU _⟩
    refine hP (hS (hS (hP (hP (hM (hl:=HL.out.1) (fun w' hg=>HB1.out _ (HK2.out.trans hg)) rX (hP (hR (fun w' hg=>?_) ?_)))))))
    ·go_simp;(with_reducible refine(CK e1 0 cs1 _ _ (HE1.out _ (HG.out.trans (HK2.out.trans hg))):Calls _ _ _ _ _).mono ?_);rintro e wq ⟨rfl,kq⟩;exact⟨by rw[hq1];try rfl,kq⟩
    exact hP AK
   simp only[nz];have HK3:=V3 (HK2.out.trans hg9);go_wp2_with(first|(refine lM (.tmp 5) (HB2.out _ HK3.out) rX ?_ (hl:=HL.out.2))|(refine sN (.tmp 6) (.tmp 30) cs2 (HB3.out.grew HK3.out) rX ?_ (hl:=HL.out.2) (h1:=HO.out.2);intro w8 hb8 k8 d8)|(refine sN (.tmp 6) (.tmp 31) (AJ 0 0) (HB3.out.grew HK3.out) rX ?_;intro w8 hb8 k8 d8)|fail);refine rT rX hb8 ?_ (hl:=HL.out.2);exact DH (by unfold Bn;simp[hq2,hq1]) HQ.out (HR2.out _ (VU _)) (HG.out.trans HK3.out) k8
  go_wp2_with(first|(refine lM (.tmp 5) (HB2.out _ HK.out) rX ?_ (hl:=HL.out.2))|(go_at_call 85;(with_reducible refine(CK e2 0 cs2 _ _ (HE2.out _ (HG.out.trans HK.out)):Calls _ _ _ _ _).mono ?_);rintro e3 w2 ⟨hret,k2⟩;rw[hq2]at hret;subst hret;have HK2:=V3 (HK.out.trans k2);clear k2)|(refine lM (.tmp 4) (HB1.out _ HK2.out) rX ?_ (hl:=HL.out.1))|(refine sN (.tmp 6) (.tmp 18) cs1 (HB3.out.grew HK2.out) rX ?_ (hl:=HL.out.1) (h1:=HO.out.1);intro w8 hb8 k8 d8)|fail);refine rT rX hb8 ?_ (hl:=HL.out.1);exact DH (by unfold Bn;simp[hq2,hq1]) HQ.out (HR1.out _ (VU _)) (HG.out.trans HK2.out) k8
 have t0:(f==0)=false:=by rw[V4];exact f0
 have HF:=V3 (V5 f2 (V5 f3 f0));clear f2 f3 f0;obtain⟨q2,hq2⟩:∃q,H7 e2 0=q:=⟨_,rfl⟩;obtain⟨q1,hq1⟩:∃q,H7 e1 0=q:=⟨_,rfl⟩;go_upto_region 4 with fail;rcases q2 with _|_
 ·go_upto_region 6 with(first|(refine lM (.tmp 5) (HB2.out _ HK.out) rX ?_ (hl:=HL.out.2))|(go_at_call 85;(with_reducible refine(CK e2 0 cs2 _ _ (HE2.out _ (HG.out.trans HK.out)):Calls _ _ _ _ _).mono ?_);rintro e3 w2 ⟨hret,k2⟩;rw[hq2]at hret;subst hret;have HK2:=V3 (HK.out.trans k2);clear k2)|fail);refine AP [(.int .i64 f),.bool false,.bool false,(.int .i64 f),.bool false,.bool false,.bool false,undef,undef,undef,.bool false] ?_ fun w9 hg9=>?_
  ·simp only[nz];refine hP (hR (fun w' hg=>?_) ?_)
   ·go_simp;first|done|exact VU _|exact⟨HF.out.2.2,VU _⟩|exact⟨HF.out.1,VU _⟩
   refine hP (hP (hR (fun w' hg=>?_) ?_))
   ·go_simp;first|done|exact VU _|exact⟨HF.out.2.2,VU _⟩|exact⟨HF.out.1,VU _⟩
   exact hP (hP (hS (hS (hS (hP AK)))))
  simp only[nz];have HK3:=V3 (HK2.out.trans hg9);go_wp2_with(first|((refine sN (.tmp 6) (.tmp 31) (AJ 0 0) (HB3.out.grew HK3.out) rX ?_;intro w8 hb8 k8 d8))|fail);refine rT rX hb8 ?_;exact B2 (by unfold Bn;simp[HF.out.1,HF.out.2.1,HF.out.2.2,hq2,hq1]) (HG.out.trans HK3.out) k8
 go_wp2_with(first|(refine lM (.tmp 5) (HB2.out _ HK.out) rX ?_ (hl:=HL.out.2))|(go_at_call 85;(with_reducible refine(CK e2 0 cs2 _ _ (HE2.out _ (HG.out.trans HK.out)):Calls _ _ _ _ _).mono ?_);rintro e3 w2 ⟨hret,k2⟩;rw[hq2]at hret;subst hret;have HK2:=V3 (HK.out.trans k2);clear k2)|(refine lM (.tmp 4) (HB1.out _ HK2.out) rX ?_ (hl:=HL.out.1))|(refine sN (.tmp 6) (.tmp 18) cs1 (HB3.out.grew HK2.out) rX ?_ (hl:=HL.out.1) (h1:=HO.out.1);intro w8 hb8 k8 d8)|fail);refine rT rX hb8 ?_ (hl:=HL.out.1);exact DH (by unfold Bn;simp[HF.out.1,HF.out.2.1,HF.out.2.2,hq2,hq1]) HQ.out (HR1.out _ (VU _)) (HG.out.trans HK2.out) k8
end Go.Proofs.YthpflelgbadkcaaGreatDoor
