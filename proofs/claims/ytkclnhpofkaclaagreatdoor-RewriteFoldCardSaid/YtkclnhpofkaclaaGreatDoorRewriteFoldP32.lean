/- What the card of the law stands on: Rw4, Rw5, Rw6. -/
import Derived.Test.YtkclnhpofkaclaaGreatDoorRewriteFoldP01
import Derived.Test.YtkclnhpofkaclaaGreatDoorRewriteFoldP04
import Derived.Test.YtkclnhpofkaclaaGreatDoorRewriteFoldP30
import Derived.Test.YtkclnhpofkaclaaGreatDoorRewriteFoldP31
import Derived.Test.YtkclnhpofkaclaaGreatDoorRewriteFoldP27
set_option maxRecDepth 100000
set_option maxHeartbeats 12800000
set_option linter.unusedVariables false
set_option linter.unusedSimpArgs false
namespace Go.Proofs.YtkclnhpofkaclaaGreatDoor
open Go.RowKit Pl
def CE (e:Ex):Prop:=Aw Nh e∧DW e∧AD e≤1000000
theorem CE.kid {e k:Ex} (h:CE e) (hk:k∈e.kids):CE k:=⟨h.1.kid hk,Gt h.2.1 hk,by have:=AT hk;have:=Ao e;have:=h.2.2;omega⟩
theorem CE.two3 {e:Ex} (h:CE e):Aw Ql e:=h.1.mono (fun _ h=>GZ h) (AD e) e (Ua _)
def Fo (x y:Ex):Bool:=(DZ x).2&&(DZ y).2&&(DZ x).1.toList==(DZ y).1.toList
def NL (x y o:Ex):Bool:=GD y o&&(Db y||Fo x y)
def Pt (c o:Ex):Bool:=decide (c.kind=0)&& !Io c 0&&GD c o
theorem GE {x y:Ex} (hx:CE x) (hy:CE y) {w:World} {csx csy:List Value} (hrx:BC w w.heap.size x csx) (hry:BC w w.heap.size y csy):
  Calls Tryz.prog 61 #[.agg csx.toArray,.agg csy.toArray] w fun e' w'=>e'= .returned (.bool (GD x y))∧A5 w w':=NM 1000000 x y hx.2.2 hy.2.2 (Ua _) hx.2.1 hy.2.1 w csx csy hrx hry
theorem Po {x:Ex} (hx:CE x) {w:World} {csx:List Value} (hrx:BC w w.heap.size x csx):
  Calls Tryz.prog 62 #[.agg csx.toArray] w fun e' w'=>e'= .returned (.bool (Db x))∧A5 w w':=DF (AD x) x (Ua _) hx.two3 w csx hrx
theorem IS {x y:Ex} (hx:CE x) (hy:CE y) {w:World} {csx csy:List Value} (hwt:Cy w) (hot:Dt w) (hrx:BC w w.heap.size x csx) (hry:BC w w.heap.size y csy):
  Calls Tryz.prog 63 #[.agg csx.toArray,.agg csy.toArray] w fun e' w'=>e'= .returned (.bool (Fo x y))∧A5 w w':=by
 obtain⟨hb1,hb2,hG⟩:=BI w 29 29 csx.toArray csy.toArray;have HA:=UX (fun w' (g:A5 w w')=>El (AD x) x (Ua _) hx.1 w' csx (hwt.grew g) (hot.keep g (fun h=>h)) (hrx.grew g));have HB:=UX (fun w' (g:A5 w w')=>El (AD y) y (Ua _) hy.1 w' csy (hwt.grew g) (hot.keep g (fun h=>h)) (hry.grew g));have HL:=UX (UZ (BT hrx) (BT hry));obtain⟨r,hr⟩:∃r,Fo x y=r:=⟨_,rfl⟩;rw[hr];unfold Fo at hr;obtain⟨⟨la,ka⟩,hsa⟩:∃p,DZ x=p:=⟨_,rfl⟩;obtain⟨⟨lb,kb⟩,hsb⟩:∃p,DZ y=p:=⟨_,rfl⟩;rw[hsa,hsb]at hr;rw[hsa]at HA;rw[hsb]at HB;dsimp only at hr HA HB;have HR:=UX hr;clear hx hy hwt hot hrx hry hsa hsb hr;go_enter Tryz.func63,Tryz.ntmps63;go_upto_region 1 with fail;change Code.wp _ _ _ _ ((w.alloc (.cells csx.toArray 29)).alloc (.cells csy.toArray 29));generalize (w.alloc (.cells csx.toArray 29)).alloc (.cells csy.toArray 29)=w1 at*;have H0:=UX hG;have HG:=UX (Uv w1);have HB1:=UX hb1;have HB2:=UX hb2;have HB1R:=UX (show ∀w',A5 w1 w'→w'.rangeAt w.heap.size 0 csx from fun w' g=>(hb1.grew g).rangeN 0 _ (by simp));have HB2R:=UX (show ∀w',A5 w1 w'→w'.rangeAt (w.heap.size+1) 0 csy from fun w' g=>(hb2.grew g).rangeN 0 _ (by simp));clear hb1 hb2 hG;go_upto_region 3 with(first|(refine lM (.tmp 2) (HB1R.out _ HG.out) rX ?_ (hl:=HL.out.1))|(go_at_call 101;(with_reducible refine(HA.out _ (H0.out.trans HG.out)).mono ?_);rintro e3 w2 ⟨rfl,k2⟩;have HG2:=UX (HG.out.trans k2);clear k2)|(refine lM (.tmp 3) (HB2R.out _ HG2.out) rX ?_ (hl:=HL.out.2))|(go_at_call 101;(with_reducible refine(HB.out _ (H0.out.trans HG2.out)).mono ?_);rintro e3 w3 ⟨rfl,k2⟩;have HG3:=UX (HG2.out.trans k2);clear k2)|fail);have hr:=HR.out;clear HR HA HB;rcases ka with _|_
 ·have h9:r=false:=by rw[←hr];rfl
  subst h9;clear hr;go_wp2_with fail;go_ret;exact⟨rfl,H0.out.trans HG3.out⟩
 rcases kb with _|_
 ·have h9:r=false:=by rw[←hr];rfl
  subst h9;clear hr;go_wp2_with fail;go_ret;exact⟨rfl,H0.out.trans HG3.out⟩
 have hz:(la.toList==lb.toList)=r:=by rw[←hr];rfl
 clear hr;rcases r with _|_
 ·go_wp2_with fail;go_ret;exact⟨rfl,H0.out.trans HG3.out⟩
 go_wp2_with fail;go_ret;exact⟨rfl,H0.out.trans HG3.out⟩
theorem CJ {x y o:Ex} (hx:CE x) (hy:CE y) (ho:CE o) {w:World} {csx csy cso:List Value} (hwt:Cy w) (hot:Dt w) (hrx:BC w w.heap.size x csx) (hry:BC w w.heap.size y csy) (hro:BC w w.heap.size o cso):
  Calls Tryz.prog 60 #[.agg csx.toArray,.agg csy.toArray,.agg cso.toArray] w fun e' w'=>e'= .returned (.bool (NL x y o))∧A5 w w':=by
 obtain⟨hb1,hb2,hb3,hG⟩:=BO w 29 29 29 csx.toArray csy.toArray cso.toArray;have HA:=UX (fun w' (g:A5 w w')=>GE hy ho (hry.grew g) (hro.grew g));have HB:=UX (fun w' (g:A5 w w')=>Po hy (hry.grew g));have HC:=UX (fun w' (g:A5 w w')=>IS hx hy (hwt.grew g) (hot.keep g (fun h=>h)) (hrx.grew g) (hry.grew g));have HLx:=UX (BT hrx);have HLy:=UX (BT hry);have HLo:=UX (BT hro);have hF:NL x y o=(GD y o&&(Db y||Fo x y)):=rfl;obtain⟨p,hp⟩:∃r,GD y o=r:=⟨_,rfl⟩;obtain⟨q,hq⟩:∃r,Db y=r:=⟨_,rfl⟩;obtain⟨r,hr⟩:∃r,Fo x y=r:=⟨_,rfl⟩;rw[hF,hp,hq,hr];rw[hp]at HA;rw[hq]at HB;rw[hr]at HC;clear hx hy ho hwt hot hrx hry hro hF hp hq hr;go_enter Tryz.func60,Tryz.ntmps60;go_upto_region 1 with fail;change Code.wp _ _ _ _ (((w.alloc (.cells csx.toArray 29)).alloc (.cells csy.toArray 29)).alloc (.cells cso.toArray 29));generalize ((w.alloc (.cells csx.toArray 29)).alloc (.cells csy.toArray 29)).alloc (.cells cso.toArray 29)=w1 at*;have H0:=UX hG;have HB1:=UX hb1;have HB2:=UX hb2;have HB3:=UX hb3;clear hb1 hb2 hb3 hG;rcases p with _|_
 ·refine AG [.agg csy.toArray,.agg cso.toArray,.bool false,.bool false,undef,undef,undef,undef,undef,undef,undef,.bool false,.bool false] ?_ fun w9 hg9=>?_
  ·simp only[nz];exact hN (hl:=HLy.out) (fun w' hg=>HB2.out.grew hg) rX (hN (hl:=HLo.out) (fun w' hg=>HB3.out.grew hg) rX (hK (fun w' hg=>HA.out _ (H0.out.trans hg)) (hP (hS (hS (hS (hS (hS (hS (hS (hP (hP AF))))))))))))
  simp only[nz];go_wp2_with fail;go_ret;exact⟨rfl,H0.out.trans hg9⟩
 rcases q with _|_
 ·refine AG [.agg csy.toArray,.agg cso.toArray,.bool true,.bool true,.agg csy.toArray,.bool false,.bool false,.agg csx.toArray,.agg csy.toArray,.bool r,.bool r,.bool r,.bool r] ?_ fun w9 hg9=>?_
  ·simp only[nz];exact hN (hl:=HLy.out) (fun w' hg=>HB2.out.grew hg) rX (hN (hl:=HLo.out) (fun w' hg=>HB3.out.grew hg) rX (hK (fun w' hg=>HA.out _ (H0.out.trans hg)) (hP (hN (hl:=HLy.out) (fun w' hg=>HB2.out.grew hg) rX (hK (fun w' hg=>HB.out _ (H0.out.trans hg)) (hP (hN (hl:=HLx.out) (fun w' hg=>HB1.out.grew hg) rX (hN (hl:=HLy.out) (fun w' hg=>HB2.out.grew hg) rX (hK (fun w' hg=>HC.out _ (H0.out.trans hg)) (hP (hP (hP AF))))))))))))
  simp only[nz];go_wp2_with fail;go_ret;exact⟨rfl,H0.out.trans hg9⟩
 refine AG [.agg csy.toArray,.agg cso.toArray,.bool true,.bool true,.agg csy.toArray,.bool true,.bool true,undef,undef,undef,.bool true,.bool true,.bool true] ?_ fun w9 hg9=>?_
 ·simp only[nz];exact hN (hl:=HLy.out) (fun w' hg=>HB2.out.grew hg) rX (hN (hl:=HLo.out) (fun w' hg=>HB3.out.grew hg) rX (hK (fun w' hg=>HA.out _ (H0.out.trans hg)) (hP (hN (hl:=HLy.out) (fun w' hg=>HB2.out.grew hg) rX (hK (fun w' hg=>HB.out _ (H0.out.trans hg)) (hP (hS (hS (hS (hP (hP (hP AF))))))))))))
 simp only[nz];go_wp2_with fail;go_ret;exact⟨rfl,H0.out.trans hg9⟩
theorem D9 {x o:Ex} (hx:CE x) (ho:CE o) {w:World} {csx cso:List Value} (hrx:BC w w.heap.size x csx) (hro:BC w w.heap.size o cso):
  Calls Tryz.prog 65 #[.agg csx.toArray,.agg cso.toArray] w fun e' w'=>e'= .returned (.bool (Pt x o))∧A5 w w':=by
 obtain⟨hb1,hb2,hG⟩:=BI w 29 29 csx.toArray cso.toArray;have HA:=UX (fun w' (g:A5 w w')=>GE hx ho (hrx.grew g) (hro.grew g));have HB:=UX (fun w' (g:A5 w w')=>CD x 0 csx w' _ (hrx.grew g));have HLx:=UX (BT hrx);have HLo:=UX (BT hro);have hF:Pt x o=(decide (x.kind=0)&& !Io x 0&&GD x o):=rfl;obtain⟨q,hq⟩:∃r,Io x 0=r:=⟨_,rfl⟩;obtain⟨r,hr⟩:∃r,GD x o=r:=⟨_,rfl⟩;have hc0:csx.toArray[0]? =some (.int .i64 x.kind):=by
  obtain⟨vm,vb,vk,rfl, -⟩:=hrx.open_;rfl
 obtain⟨p,hp⟩:∃r,decide (x.kind=0)=r:=⟨_,rfl⟩;rw[hF,hp,hq,hr];rw[hr]at HA;rw[hq]at HB;clear hx ho hrx hro hF hq hr;go_enter Tryz.func65,Tryz.ntmps65;go_upto_region 1 with fail;change Code.wp _ _ _ _ ((w.alloc (.cells csx.toArray 29)).alloc (.cells cso.toArray 29));generalize (w.alloc (.cells csx.toArray 29)).alloc (.cells cso.toArray 29)=w1 at*;have H0:=UX hG;have HB1:=UX hb1;have HB2:=UX hb2;have HC:=UX (fun w' (g:A5 w1 w')=>(show w'.cell? ⟨w.heap.size,0,none⟩=some (.int .i64 x.kind)from((hb1.grew g).cell 0).trans hc0));have hpb:(x.kind==0)=p:=by rw[←hp];by_cases h:x.kind=0<;>simp[h]
 have HP:=UX hpb;clear hb1 hb2 hG hc0 hp hpb;rcases p with _|_
 ·refine AG [.pointer (some ⟨w.heap.size,0,none⟩),.int .i64 x.kind,.bool false,.bool false,undef,undef,undef,.bool false,.bool false,undef,undef,undef,.bool false,.bool false] ?_ fun w9 hg9=>?_
  ·simp only[nz];refine hP (hR (fun w' hg=>?_) ?_)
   ·have hc:=HC.out w' hg;exact lO (.tmp 5) hc
   refine hR (fun w' hg=>?_) ?_
   ·go_simp;first|exact⟨UY.1 HP.out,Uv _⟩|exact⟨Ud.1 HP.out,Uv _⟩
   exact hP (hS (hS (hS (hP (hP (hS (hS (hS (hP (hP AF))))))))))
  simp only[nz];go_wp2_with fail;go_ret;exact⟨rfl,H0.out.trans hg9⟩
 rcases q with _|_
 ·refine AG [.pointer (some ⟨w.heap.size,0,none⟩),.int .i64 x.kind,.bool true,.bool true,.agg csx.toArray,.bool false,.bool true,.bool true,.bool true,.agg csx.toArray,.agg cso.toArray,.bool r,.bool r,.bool r] ?_ fun w9 hg9=>?_
  ·simp only[nz];refine hP (hR (fun w' hg=>?_) ?_)
   ·have hc:=HC.out w' hg;exact lO (.tmp 5) hc
   refine hR (fun w' hg=>?_) ?_
   ·go_simp;first|exact⟨UY.1 HP.out,Uv _⟩|exact⟨Ud.1 HP.out,Uv _⟩
   exact hP (hN (hl:=HLx.out) (fun w' hg=>HB1.out.grew hg) rX (hK (fun w' hg=>HB.out _ (H0.out.trans hg)) (hP (hP (hP (hN (hl:=HLx.out) (fun w' hg=>HB1.out.grew hg) rX (hN (hl:=HLo.out) (fun w' hg=>HB2.out.grew hg) rX (hK (fun w' hg=>HA.out _ (H0.out.trans hg)) (hP (hP AF))))))))))
  simp only[nz];go_wp2_with fail;go_ret;exact⟨rfl,H0.out.trans hg9⟩
 refine AG [.pointer (some ⟨w.heap.size,0,none⟩),.int .i64 x.kind,.bool true,.bool true,.agg csx.toArray,.bool true,.bool false,.bool false,.bool false,undef,undef,undef,.bool false,.bool false] ?_ fun w9 hg9=>?_
 ·simp only[nz];refine hP (hR (fun w' hg=>?_) ?_)
  ·have hc:=HC.out w' hg;exact lO (.tmp 5) hc
  refine hR (fun w' hg=>?_) ?_
  ·go_simp;first|exact⟨UY.1 HP.out,Uv _⟩|exact⟨Ud.1 HP.out,Uv _⟩
  exact hP (hN (hl:=HLx.out) (fun w' hg=>HB1.out.grew hg) rX (hK (fun w' hg=>HB.out _ (H0.out.trans hg)) (hP (hP (hP (hS (hS (hS (hP (hP AF))))))))))
 simp only[nz];go_wp2_with fail;go_ret;exact⟨rfl,H0.out.trans hg9⟩
def zE:Ex:= .mk 0 0 0 0 0 0 0 ⟨#[]⟩ [] [] []
def Hm (e:Ex) (f:Int):Bool:=decide (e.kind=3∧e.fn=f)
def pt1 (e:Ex) (f:Int):Ex:=if Hm e f then e.kids.getD 0 zE else zE
def pt2 (e:Ex) (f:Int):Ex:=if Hm e f then e.kids.getD 1 zE else zE
theorem Pn (w:World) (Q:Nat→Prop):AN w Q zE (AE 0 0):=AN.mk_ (e:=zE) (BE.nil _ _ _) (BE.nil _ _ _) (Ca.nil _ _)
theorem RW:CE zE:=⟨Aa.2 ⟨.inl ⟨rfl,rfl⟩,fun k hk=>nomatch hk⟩,by unfold zE DW Du;exact⟨Nat.zero_le _,Nat.zero_le _,trivial⟩,by decide⟩
theorem CE.top2 {e:Ex} (h:CE e) (h3:e.kind=3):∃a b,e.kids=[a,b]:=GZ h.1.top h3
theorem CE.pt1 {e:Ex} (h:CE e) (f:Int):CE (pt1 e f):=by
 unfold Go.Proofs.YtkclnhpofkaclaaGreatDoor.pt1;split
 ·rename_i ho
  obtain⟨h3, -⟩:=Ui ho;obtain⟨a,b,hk⟩:=h.top2 h3;rw[hk];exact h.kid (by rw[hk];exact List.mem_cons_self)
 exact RW
theorem CE.pt2 {e:Ex} (h:CE e) (f:Int):CE (pt2 e f):=by
 unfold Go.Proofs.YtkclnhpofkaclaaGreatDoor.pt2;split
 ·rename_i ho
  obtain⟨h3, -⟩:=Ui ho;obtain⟨a,b,hk⟩:=h.top2 h3;rw[hk];exact h.kid (by rw[hk];simp)
 exact RW
theorem Je {w:World} {Q:Nat→Prop} {ea eb:Ex} {es:List Ex} {v:Value} (hT:Ca w Q v es) (hk:es=[ea,eb]):∃b o c ca cb,v= .slice (some ⟨b,o,none⟩) 2 c∧Q b∧w.rangeAt b o ca∧w.rangeAt b (o+11) cb∧AN w Q ea ca∧AN w Q eb cb:=by
 subst hk;obtain⟨A,n,c,rfl,hn2, -⟩:=hT.slice;obtain rfl:n=2:=by rw[hn2];rfl
 obtain⟨b,o,ca,rfl,hbb,hra,hea⟩:=hT.at_ (j:=0) (e:=ea) rfl;obtain⟨b',o',cb,hbo, -,hrb,heb⟩:=hT.at_ (j:=1) (e:=eb) rfl;simp only[Ur,Addr.mk.injEq,and_true]at hbo;obtain⟨rfl,rfl⟩:=hbo;rw[Nat.zero_mul,Nat.add_zero]at hra;rw[Nat.one_mul]at hrb;exact⟨b,o,c,ca,cb,rfl,hbb,hra,hrb,hea,heb⟩
theorem AN.grewQ {w w':World} {Q:Nat→Prop} {e:Ex} {cs:List Value} (h:AN w Q e cs) (hq:∀b,Q b→b<w.heap.size) (g:A5 w w'):AN w' Q e cs:=AN.keep (S:=fun _=>False) (fun b hb=>⟨hq b hb,fun h=>h,hb⟩) g e cs h
theorem AN.len {w:World} {Q:Nat→Prop} {e:Ex} {cs:List Value} (h:AN w Q e cs):cs.length=11:=by
 obtain⟨vm,vb,vk,rfl, -⟩:=h.open_;exact CO _ _ _ _
def Rm (e:Ex) (f:Int) (Q:Nat→Prop) (w:World) (e':Ending) (w':World):Prop:=∃ca cb,e'= .returned (.tuple #[.agg ca.toArray,.agg cb.toArray,.bool (Hm e f)])∧AN w' Q (pt1 e f) ca∧AN w' Q (pt2 e f) cb∧A5 w w'
theorem Gk {e:Ex} (he:CE e) (f:Int) {Q:Nat→Prop} {w:World} {cs:List Value} (hq:∀b,Q b→b<w.heap.size) (hr:AN w Q e cs):Calls Tryz.prog 64 #[.agg cs.toArray,.int .i64 f] w (Rm e f Q w):=by
 by_cases ho:e.kind=3∧e.fn=f
 ·have hop:Hm e f=true:=decide_eq_true ho;obtain⟨a,b,hk⟩:=he.top2 ho.1;obtain⟨vm,vb,vk,rfl, -, -,hT⟩:=hr.open_;obtain⟨b',o,c,ca,cb,rfl,hbq,hra,hrb,hea,heb⟩:=Je hT hk;refine(NW e f vm vb b' o c ca cb w ho.1 ho.2 (hq _ hbq) hra hrb hea.len heb.len (fun v hv=>?_) (fun v hv=>?_)).mono ?_
  ·exact AQ (AN.keep (S:=fun _=>False) (Q':=fun _=>True) (fun b hb=>⟨hq b hb,fun h=>h,trivial⟩) (Uv w) _ _ hea) v hv
  ·exact AQ (AN.keep (S:=fun _=>False) (Q':=fun _=>True) (fun b hb=>⟨hq b hb,fun h=>h,trivial⟩) (Uv w) _ _ heb) v hv
  rintro e' w' ⟨rfl,g⟩;refine⟨ca,cb,by rw[hop],?_,?_,g⟩
  ·rw[pt1,hop,Uo rfl,hk];exact hea.grewQ hq g
  rw[pt2,hop,Uo rfl,hk];exact heb.grewQ hq g
 have hop:Hm e f=false:=Uj ho;refine(P2 e f cs w w.heap.size (AN.toB hq e cs hr) ho).mono ?_;rintro e' w' ⟨rfl,g⟩;refine⟨AE 0 0,AE 0 0,by rw[hop],?_,?_,g⟩
 ·rw[pt1,hop,Un (by decide)];exact Pn _ _
 rw[pt2,hop,Un (by decide)];exact Pn _ _
theorem AN.one_ {w:World} {Q:Nat→Prop} {e:Ex} {cs:List Value} (h:AN w Q e cs) (hq:∀b,Q b→b<w.heap.size):∀v∈cs,v.oneCell'=true:=AQ (AN.keep (S:=fun _=>False) (Q':=fun _=>True) (fun b hb=>⟨hq b hb,fun h=>h,trivial⟩) (Uv w) _ _ h)
def IW (e x:Ex):Bool:=Hm e 2&&((Io (pt2 e 2) 0&&Fo x (pt1 e 2))||(Io (pt1 e 2) 0&&Fo x (pt2 e 2)))
theorem FT {e x:Ex} (he:CE e) (hx:CE x) {w:World} {cse csx:List Value} (hwt:Cy w) (hot:Dt w) (hre:BC w w.heap.size e cse) (hrx:BC w w.heap.size x csx):
  Calls Tryz.prog 66 #[.agg cse.toArray,.agg csx.toArray] w fun e' w'=>e'= .returned (.bool (IW e x))∧A5 w w':=by
 obtain⟨hb1,hb2,hG⟩:=BI w 29 29 cse.toArray csx.toArray;have hreQ:AN w (fun b=>b<w.heap.size) e cse:=BC.toQ (fun _ h=>h) _ _ hre;have HP:=UX (fun w' (g:A5 w w')=>Gk he 2 (Q:=fun b=>b<w.heap.size) (fun b hb=>Ub hb g.size) (hreQ.grewQ (fun _ h=>h) g));have HC:=UX (UZ hwt (UZ hot (UZ hrx (UZ he hx))));have HLe:=UX (BT hre);have HLx:=UX (BT hrx);obtain⟨r,hr⟩:∃r,IW e x=r:=⟨_,rfl⟩;rw[hr];have HR:=UX hr;clear he hx hwt hot hre hrx hreQ hr;go_enter Tryz.func66,Tryz.ntmps66;go_upto_region 1 with fail;change Code.wp _ _ _ _ ((w.alloc (.cells cse.toArray 29)).alloc (.cells csx.toArray 29));generalize (w.alloc (.cells cse.toArray 29)).alloc (.cells csx.toArray 29)=w1 at*;have HB1:=UX (show ∀w',A5 w1 w'→w'.rangeAt w.heap.size 0 cse from fun w' g=>(hb1.grew g).rangeN 0 _ (by simp));have HG0:=UX hG;have HB2:=UX hb2;clear hb1 hb2 hG;go_upto_region 2 with(first|(refine lM (.tmp 2) (HB1.out _ (Uv _)) rX ?_ (hl:=HLe.out))|(go_at_call 64;(with_reducible refine(HP.out _ HG0.out).mono ?_);rintro e3 wa ⟨ca,cb,rfl,hca,hcb,ka⟩;obtain⟨y1,y2,y3⟩:=BI wa 29 29 (AE 0 0).toArray (AE 0 0).toArray;have hla:=hca.len;have hlb:=hcb.len;have hzs:=Ue HG0.out.size ka.size;have hoa:=hca.one_ (fun b hb=>Ub hb hzs);have hob:=hcb.one_ (fun b hb=>Ub hb hzs))|(refine sN (.tmp 5) (.tmp 11) ca y1 rX ?_ (hl:=hla) (h1:=hoa);intro wb hb5 k5 d5;have hb5':=y2.keep k5 (by omega))|(refine sN (.tmp 6) (.tmp 12) cb hb5' rX ?_ (hl:=hlb) (h1:=hob);intro wc hb6 k6 d6;have hb56:=hb5.keep k6 (by omega))|fail);have hac:A5 wa wc:=Uw (Uw y3 k5 fun i hi e=>by omega) k6 fun i hi e=>by omega
 have h0c:A5 w wc:=(HG0.out.trans ka).trans hac;have H0:=UX h0c;have HBx:=UX (HB2.out.grew (ka.trans hac));have HBa:=UX hb56;have HBb:=UX hb6;have hqz:∀w',A5 w w'→∀b,b<w.heap.size→b<w'.heap.size:=fun w' g b hb=>Ub hb g.size
 have hca':BC wc wc.heap.size (pt1 e 2) ca:=AN.toB (hqz _ h0c) _ _ (hca.grewQ (fun b hb=>Ub hb hzs) hac);have hcb':BC wc wc.heap.size (pt2 e 2) cb:=AN.toB (hqz _ h0c) _ _ (hcb.grewQ (fun b hb=>Ub hb hzs) hac);have HI2:=UX (fun w' (g:A5 wc w')=>CD (pt2 e 2) 0 cb w' _ (hcb'.grew g));have HI1:=UX (fun w' (g:A5 wc w')=>CD (pt1 e 2) 0 ca w' _ (hca'.grew g));have HS1:=UX (fun w' (g:A5 wc w')=>IS HC.out.2.2.2.2 (HC.out.2.2.2.1.pt1 2) (HC.out.1.grew (h0c.trans g)) (HC.out.2.1.keep (h0c.trans g) (fun h=>h)) (HC.out.2.2.1.grew (h0c.trans g)) (hca'.grew g));have HS2:=UX (fun w' (g:A5 wc w')=>IS HC.out.2.2.2.2 (HC.out.2.2.2.1.pt2 2) (HC.out.1.grew (h0c.trans g)) (HC.out.2.1.keep (h0c.trans g) (fun h=>h)) (HC.out.2.2.1.grew (h0c.trans g)) (hcb'.grew g));have HLa:=UX hla;have HLb:=UX hlb;have hr:=HR.out;unfold IW at hr;obtain⟨o,ho⟩:∃o,Hm e 2=o:=⟨_,rfl⟩;obtain⟨q2,hq2⟩:∃o,Io (pt2 e 2) 0=o:=⟨_,rfl⟩;obtain⟨q1,hq1⟩:∃o,Io (pt1 e 2) 0=o:=⟨_,rfl⟩;obtain⟨s1,hs1⟩:∃o,Fo x (pt1 e 2)=o:=⟨_,rfl⟩;obtain⟨s2,hs2⟩:∃o,Fo x (pt2 e 2)=o:=⟨_,rfl⟩;rw[ho,hq2,hq1,hs1,hs2]at hr;rw[hq2]at HI2;rw[hq1]at HI1;rw[hs1]at HS1;rw[hs2]at HS2;rw[ho];clear HP HR HC HB1 HB2 hca hcb hca' hcb' hla hlb hoa hob hb56 hb6 hb5 hb5' y1 y2 y3 k5 k6 d5 d6 ka hac h0c hzs hqz ho hq2 hq1 hs1 hs2;generalize wa.heap.size=z at*;rcases o with _|_
 ·refine AG [.bool false,.bool false,undef,undef,undef,undef,undef,undef,undef,undef,undef,undef,undef,undef,undef,undef,undef,undef,.bool false,.bool false] ?_ fun w9 hg9=>?_
  ·simp only[nz];exact hP (hP (hS (hS (hS (hS (hS (hS (hS (hS (hS (hS (hS (hS (hS (hS (hS (hS (hP (hP AF)))))))))))))))))))
  simp only[nz];go_wp2_with fail;go_ret;exact⟨by rw[←hr];simp,H0.out.trans hg9⟩
 rcases q2 with _|_
 ·rcases q1 with _|_
  ·refine AG [.bool true,.bool true,.agg cb.toArray,.bool false,.bool false,undef,undef,undef,.bool false,.bool false,.agg ca.toArray,.bool false,.bool false,undef,undef,undef,.bool false,.bool false,.bool false,.bool false] ?_ fun w9 hg9=>?_
   ·simp only[nz];exact hP (hP (hN (hl:=HLb.out) (fun w' hg=>HBb.out.grew hg) rX (hK (fun w' hg=>HI2.out _ hg) (hP (hS (hS (hS (hP (hP (hN (hl:=HLa.out) (fun w' hg=>HBa.out.grew hg) rX (hK (fun w' hg=>HI1.out _ hg) (hP (hS (hS (hS (hP (hP (hP (hP AF)))))))))))))))))))
   simp only[nz];go_wp2_with fail;go_ret;exact⟨by rw[←hr];simp,H0.out.trans hg9⟩
  refine AG [.bool true,.bool true,.agg cb.toArray,.bool false,.bool false,undef,undef,undef,.bool false,.bool false,.agg ca.toArray,.bool true,.bool true,.agg csx.toArray,.agg cb.toArray,.bool s2,.bool s2,.bool s2,.bool s2,.bool s2] ?_ fun w9 hg9=>?_
  ·simp only[nz];exact hP (hP (hN (hl:=HLb.out) (fun w' hg=>HBb.out.grew hg) rX (hK (fun w' hg=>HI2.out _ hg) (hP (hS (hS (hS (hP (hP (hN (hl:=HLa.out) (fun w' hg=>HBa.out.grew hg) rX (hK (fun w' hg=>HI1.out _ hg) (hP (hN (hl:=HLx.out) (fun w' hg=>HBx.out.grew hg) rX (hN (hl:=HLb.out) (fun w' hg=>HBb.out.grew hg) rX (hK (fun w' hg=>HS2.out _ hg) (hP (hP (hP (hP AF)))))))))))))))))))
  simp only[nz];go_wp2_with fail;go_ret;exact⟨by rw[←hr];simp,H0.out.trans hg9⟩
 rcases s1 with _|_
 ·rcases q1 with _|_
  ·refine AG [.bool true,.bool true,.agg cb.toArray,.bool true,.bool true,.agg csx.toArray,.agg ca.toArray,.bool false,.bool false,.bool false,.agg ca.toArray,.bool false,.bool false,undef,undef,undef,.bool false,.bool false,.bool false,.bool false] ?_ fun w9 hg9=>?_
   ·simp only[nz];exact hP (hP (hN (hl:=HLb.out) (fun w' hg=>HBb.out.grew hg) rX (hK (fun w' hg=>HI2.out _ hg) (hP (hN (hl:=HLx.out) (fun w' hg=>HBx.out.grew hg) rX (hN (hl:=HLa.out) (fun w' hg=>HBa.out.grew hg) rX (hK (fun w' hg=>HS1.out _ hg) (hP (hP (hN (hl:=HLa.out) (fun w' hg=>HBa.out.grew hg) rX (hK (fun w' hg=>HI1.out _ hg) (hP (hS (hS (hS (hP (hP (hP (hP AF)))))))))))))))))))
   simp only[nz];go_wp2_with fail;go_ret;exact⟨by rw[←hr];simp,H0.out.trans hg9⟩
  refine AG [.bool true,.bool true,.agg cb.toArray,.bool true,.bool true,.agg csx.toArray,.agg ca.toArray,.bool false,.bool false,.bool false,.agg ca.toArray,.bool true,.bool true,.agg csx.toArray,.agg cb.toArray,.bool s2,.bool s2,.bool s2,.bool s2,.bool s2] ?_ fun w9 hg9=>?_
  ·simp only[nz];exact hP (hP (hN (hl:=HLb.out) (fun w' hg=>HBb.out.grew hg) rX (hK (fun w' hg=>HI2.out _ hg) (hP (hN (hl:=HLx.out) (fun w' hg=>HBx.out.grew hg) rX (hN (hl:=HLa.out) (fun w' hg=>HBa.out.grew hg) rX (hK (fun w' hg=>HS1.out _ hg) (hP (hP (hN (hl:=HLa.out) (fun w' hg=>HBa.out.grew hg) rX (hK (fun w' hg=>HI1.out _ hg) (hP (hN (hl:=HLx.out) (fun w' hg=>HBx.out.grew hg) rX (hN (hl:=HLb.out) (fun w' hg=>HBb.out.grew hg) rX (hK (fun w' hg=>HS2.out _ hg) (hP (hP (hP (hP AF)))))))))))))))))))
  simp only[nz];go_wp2_with fail;go_ret;exact⟨by rw[←hr];simp,H0.out.trans hg9⟩
 refine AG [.bool true,.bool true,.agg cb.toArray,.bool true,.bool true,.agg csx.toArray,.agg ca.toArray,.bool true,.bool true,.bool true,undef,undef,undef,undef,undef,undef,undef,.bool true,.bool true,.bool true] ?_ fun w9 hg9=>?_
 ·simp only[nz];exact hP (hP (hN (hl:=HLb.out) (fun w' hg=>HBb.out.grew hg) rX (hK (fun w' hg=>HI2.out _ hg) (hP (hN (hl:=HLx.out) (fun w' hg=>HBx.out.grew hg) rX (hN (hl:=HLa.out) (fun w' hg=>HBa.out.grew hg) rX (hK (fun w' hg=>HS1.out _ hg) (hP (hP (hS (hS (hS (hS (hS (hS (hS (hP (hP (hP AF)))))))))))))))))))
 simp only[nz];go_wp2_with fail;go_ret;exact⟨by rw[←hr];simp,H0.out.trans hg9⟩
def CN (r:Option Ex) (Q:Nat→Prop) (w:World) (e':Ending) (w':World):Prop:=∃cs,e'= .returned (.tuple #[.agg cs.toArray,.bool r.isSome])∧AN w' (fun b=>Q b∨(w.heap.size≤b∧b<w'.heap.size)) (r.getD zE) cs∧A5 w w'
theorem Cv {r:Option Ex} {e:Ex} (hr:r=some e) {Q:Nat→Prop} {w w7 w8:World} {cs:List Value} (hq:∀b,Q b→b<w.heap.size) (h:AN w Q e cs) (g:A5 w w7) (k:A4 (fun i=>i=w.heap.size+1+1) w7 w8):
  CN r Q w (.returned (.tuple #[.agg cs.toArray,.bool true])) w8:=by
 subst hr;have g8:A5 w w8:=Uw g k fun i hi e=>by omega
 exact⟨cs,rfl,AN.keep (S:=fun _=>False) (fun b hb=>⟨hq b hb,fun h=>h,.inl hb⟩) g8 _ _ h,g8⟩
theorem Ai {r:Option Ex} (hr:r=none) {Q:Nat→Prop} {w w7 w8:World} (g:A5 w w7) (k:A4 (fun i=>i=w.heap.size+1+1) w7 w8):
  CN r Q w (.returned (.tuple #[.agg (AE 0 0).toArray,.bool false])) w8:=by
 subst hr;exact⟨AE 0 0,rfl,Pn _ _,Uw g k fun i hi e=>by omega⟩
def By (f:Int) (e1 e2:Ex):Option Ex:=
 let n:Int:=if f=2∨f=3 then 1 else 0
 if Io e2 n then some e1 else if(f=0∨f=2)∧Io e1 n=true then some e2 else none
theorem Lu {f:Int} {e1 e2:Ex} (h1:CE e1) (h2:CE e2) {Q:Nat→Prop} {w:World} {cs1 cs2:List Value} (hwt:Cy w) (hot:Dt w) (hq:∀b,Q b→b<w.heap.size) (hr1:AN w Q e1 cs1) (hr2:AN w Q e2 cs2):
  Calls Tryz.prog 34 #[.int .i64 f,.agg cs1.toArray,.agg cs2.toArray] w (CN (By f e1 e2) Q w):=by
 have HQ:=UX hq;have HR1:=UX (fun w' (g:A5 w w')=>hr1.grewQ hq g);have HR2:=UX (fun w' (g:A5 w w')=>hr2.grewQ hq g);have HE1:=UX (fun w' (g:A5 w w')=>AN.toB (fun b hb=>Ub (hq b hb) g.size) _ _ (hr1.grewQ hq g));have HE2:=UX (fun w' (g:A5 w w')=>AN.toB (fun b hb=>Ub (hq b hb) g.size) _ _ (hr2.grewQ hq g));have HL:=UX (UZ hr1.len hr2.len);have HO:=UX (UZ (hr1.one_ hq) (hr2.one_ hq));have HT:=UX (fun w' (g:A5 w w')=>UZ (hwt.grew g) (hot.keep g (fun h=>h)));have HOK:=UX (UZ h1 h2);obtain⟨hb1,hb2,hb3,hG⟩:=BO w 29 29 29 cs1.toArray cs2.toArray (AE 0 0).toArray;clear hq hr1 hr2 h1 h2 hwt hot;go_enter Tryz.func34,Tryz.ntmps34;go_upto_region 1 with fail;change Code.wp _ _ _ _ (((w.alloc (.cells cs1.toArray 29)).alloc (.cells cs2.toArray 29)).alloc (.cells (AE 0 0).toArray 29));generalize ((w.alloc (.cells cs1.toArray 29)).alloc (.cells cs2.toArray 29)).alloc (.cells (AE 0 0).toArray 29)=w1 at*;have HB1:=UX (show ∀w',A5 w1 w'→w'.rangeAt w.heap.size 0 cs1 from fun w' g=>(hb1.grew g).rangeN 0 _ (by simp));have HB2:=UX (show ∀w',A5 w1 w'→w'.rangeAt (w.heap.size+1) 0 cs2 from fun w' g=>(hb2.grew g).rangeN 0 _ (by simp));have HB3:=UX hb3;have HG:=UX hG;have HK:=UX (Uv w1);clear hb1 hb2 hb3 hG;by_cases f2:f=2
 ·subst f2;obtain⟨q2,hq2⟩:∃q,Io e2 1=q:=⟨_,rfl⟩;obtain⟨q1,hq1⟩:∃q,Io e1 1=q:=⟨_,rfl⟩;go_upto_region 4 with fail;rcases q2 with _|_
  ·go_upto_region 6 with(first|(refine lM (.tmp 5) (HB2.out _ HK.out) rX ?_ (hl:=HL.out.2))|(go_at_call 59;(with_reducible refine(CD e2 1 cs2 _ _ (HE2.out _ (HG.out.trans HK.out)):Calls _ _ _ _ _).mono ?_);rintro e3 w2 ⟨hret,k2⟩;rw[hq2]at hret;subst hret;have HK2:=UX (HK.out.trans k2);clear k2)|fail);rcases q1 with _|_
   ·refine AG [(.int .i64 2),.bool false,.bool false,(.int .i64 2),.bool true,.bool true,.bool true,.agg cs1.toArray,.int .i64 1,.bool false,.bool false] ?_ fun w9 hg9=>?_
    ·simp only[nz];refine hP (hR (fun w' hg=>?_) ?_)
     ·go_simp;first|done|exact Uv _|exact⟨HF.out.2.2,Uv _⟩|exact⟨HF.out.1,Uv _⟩
     refine hP (hP (hR (fun w' hg=>?_) ?_))
     ·go_simp;first|done|exact Uv _|exact⟨HF.out.2.2,Uv _⟩|exact⟨HF.out.1,Uv _⟩
     refine hP (hP (hM (hl:=HL.out.1) (fun w' hg=>HB1.out _ (HK2.out.trans hg)) rX (hP (hR (fun w' hg=>?_) ?_))))
     ·go_simp;(with_reducible refine(CD e1 1 cs1 _ _ (HE1.out _ (HG.out.trans (HK2.out.trans hg))):Calls _ _ _ _ _).mono ?_);rintro e wq ⟨rfl,kq⟩;exact⟨by rw[hq1];try rfl,kq⟩
     exact hP AF
    simp only[nz];have HK3:=UX (HK2.out.trans hg9);go_wp2_with(first|(refine lM (.tmp 5) (HB2.out _ HK3.out) rX ?_ (hl:=HL.out.2))|(refine sN (.tmp 6) (.tmp 30) cs2 (HB3.out.grew HK3.out) rX ?_ (hl:=HL.out.2) (h1:=HO.out.2);intro w8 hb8 k8 d8)|(refine sN (.tmp 6) (.tmp 31) (AE 0 0) (HB3.out.grew HK3.out) rX ?_;intro w8 hb8 k8 d8)|fail);refine rT rX hb8 ?_;exact Ai (by unfold By;simp[hq2,hq1]) (HG.out.trans HK3.out) k8
   refine AG [(.int .i64 2),.bool false,.bool false,(.int .i64 2),.bool true,.bool true,.bool true,.agg cs1.toArray,.int .i64 1,.bool true,.bool true] ?_ fun w9 hg9=>?_
   ·simp only[nz];refine hP (hR (fun w' hg=>?_) ?_)
    ·go_simp;first|done|exact Uv _|exact⟨HF.out.2.2,Uv _⟩|exact⟨HF.out.1,Uv _⟩
    refine hP (hP (hR (fun w' hg=>?_) ?_))
    ·go_simp;first|done|exact Uv _|exact⟨HF.out.2.2,Uv _⟩|exact⟨HF.out.1,Uv _⟩
    refine hP (hP (hM (hl:=HL.out.1) (fun w' hg=>HB1.out _ (HK2.out.trans hg)) rX (hP (hR (fun w' hg=>?_) ?_))))
    ·go_simp;(with_reducible refine(CD e1 1 cs1 _ _ (HE1.out _ (HG.out.trans (HK2.out.trans hg))):Calls _ _ _ _ _).mono ?_);rintro e wq ⟨rfl,kq⟩;exact⟨by rw[hq1];try rfl,kq⟩
    exact hP AF
   simp only[nz];have HK3:=UX (HK2.out.trans hg9);go_wp2_with(first|(refine lM (.tmp 5) (HB2.out _ HK3.out) rX ?_ (hl:=HL.out.2))|(refine sN (.tmp 6) (.tmp 30) cs2 (HB3.out.grew HK3.out) rX ?_ (hl:=HL.out.2) (h1:=HO.out.2);intro w8 hb8 k8 d8)|(refine sN (.tmp 6) (.tmp 31) (AE 0 0) (HB3.out.grew HK3.out) rX ?_;intro w8 hb8 k8 d8)|fail);refine rT rX hb8 ?_ (hl:=HL.out.2);exact Cv (by unfold By;simp[hq2,hq1]) HQ.out (HR2.out _ (Uv _)) (HG.out.trans HK3.out) k8
  go_wp2_with(first|(refine lM (.tmp 5) (HB2.out _ HK.out) rX ?_ (hl:=HL.out.2))|(go_at_call 59;(with_reducible refine(CD e2 1 cs2 _ _ (HE2.out _ (HG.out.trans HK.out)):Calls _ _ _ _ _).mono ?_);rintro e3 w2 ⟨hret,k2⟩;rw[hq2]at hret;subst hret;have HK2:=UX (HK.out.trans k2);clear k2)|(refine lM (.tmp 4) (HB1.out _ HK2.out) rX ?_ (hl:=HL.out.1))|(refine sN (.tmp 6) (.tmp 18) cs1 (HB3.out.grew HK2.out) rX ?_ (hl:=HL.out.1) (h1:=HO.out.1);intro w8 hb8 k8 d8)|fail);refine rT rX hb8 ?_ (hl:=HL.out.1);exact Cv (by unfold By;simp[hq2,hq1]) HQ.out (HR1.out _ (Uv _)) (HG.out.trans HK2.out) k8
 have t2:(f==2)=false:=by rw[UY];exact f2
 by_cases f3:f=3
 ·subst f3;obtain⟨q2,hq2⟩:∃q,Io e2 1=q:=⟨_,rfl⟩;obtain⟨q1,hq1⟩:∃q,Io e1 1=q:=⟨_,rfl⟩;go_upto_region 4 with fail;rcases q2 with _|_
  ·go_upto_region 6 with(first|(refine lM (.tmp 5) (HB2.out _ HK.out) rX ?_ (hl:=HL.out.2))|(go_at_call 59;(with_reducible refine(CD e2 1 cs2 _ _ (HE2.out _ (HG.out.trans HK.out)):Calls _ _ _ _ _).mono ?_);rintro e3 w2 ⟨hret,k2⟩;rw[hq2]at hret;subst hret;have HK2:=UX (HK.out.trans k2);clear k2)|fail);refine AG [(.int .i64 3),.bool false,.bool false,(.int .i64 3),.bool false,.bool false,.bool false,undef,undef,undef,.bool false] ?_ fun w9 hg9=>?_
   ·simp only[nz];refine hP (hR (fun w' hg=>?_) ?_)
    ·go_simp;first|done|exact Uv _|exact⟨HF.out.2.2,Uv _⟩|exact⟨HF.out.1,Uv _⟩
    refine hP (hP (hR (fun w' hg=>?_) ?_))
    ·go_simp;first|done|exact Uv _|exact⟨HF.out.2.2,Uv _⟩|exact⟨HF.out.1,Uv _⟩
    exact hP (hP (hS (hS (hS (hP AF)))))
   simp only[nz];have HK3:=UX (HK2.out.trans hg9);go_wp2_with(first|((refine sN (.tmp 6) (.tmp 31) (AE 0 0) (HB3.out.grew HK3.out) rX ?_;intro w8 hb8 k8 d8))|fail);refine rT rX hb8 ?_;exact Ai (by unfold By;simp[hq2,hq1]) (HG.out.trans HK3.out) k8
  go_wp2_with(first|(refine lM (.tmp 5) (HB2.out _ HK.out) rX ?_ (hl:=HL.out.2))|(go_at_call 59;(with_reducible refine(CD e2 1 cs2 _ _ (HE2.out _ (HG.out.trans HK.out)):Calls _ _ _ _ _).mono ?_);rintro e3 w2 ⟨hret,k2⟩;rw[hq2]at hret;subst hret;have HK2:=UX (HK.out.trans k2);clear k2)|(refine lM (.tmp 4) (HB1.out _ HK2.out) rX ?_ (hl:=HL.out.1))|(refine sN (.tmp 6) (.tmp 18) cs1 (HB3.out.grew HK2.out) rX ?_ (hl:=HL.out.1) (h1:=HO.out.1);intro w8 hb8 k8 d8)|fail);refine rT rX hb8 ?_ (hl:=HL.out.1);exact Cv (by unfold By;simp[hq2,hq1]) HQ.out (HR1.out _ (Uv _)) (HG.out.trans HK2.out) k8
 have t3:(f==3)=false:=by rw[UY];exact f3
 by_cases f0:f=0
 ·subst f0;obtain⟨q2,hq2⟩:∃q,Io e2 0=q:=⟨_,rfl⟩;obtain⟨q1,hq1⟩:∃q,Io e1 0=q:=⟨_,rfl⟩;go_upto_region 4 with fail;rcases q2 with _|_
  ·go_upto_region 6 with(first|(refine lM (.tmp 5) (HB2.out _ HK.out) rX ?_ (hl:=HL.out.2))|(go_at_call 59;(with_reducible refine(CD e2 0 cs2 _ _ (HE2.out _ (HG.out.trans HK.out)):Calls _ _ _ _ _).mono ?_);rintro e3 w2 ⟨hret,k2⟩;rw[hq2]at hret;subst hret;have HK2:=UX (HK.out.trans k2);clear k2)|fail);rcases q1 with _|_
   ·refine AG [(.int .i64 0),.bool true,.bool true,undef,undef,.bool true,.bool true,.agg cs1.toArray,.int .i64 0,.bool false,.bool false] ?_ fun w9 hg9=>?_
    ·simp only[nz];refine hP (hR (fun w' hg=>?_) ?_)
     ·go_simp;first|done|exact Uv _|exact⟨HF.out.2.2,Uv _⟩|exact⟨HF.out.1,Uv _⟩
     refine hP (hS (hS (hP (hP (hM (hl:=HL.out.1) (fun w' hg=>HB1.out _ (HK2.out.trans hg)) rX (hP (hR (fun w' hg=>?_) ?_)))))))
     ·go_simp;(with_reducible refine(CD e1 0 cs1 _ _ (HE1.out _ (HG.out.trans (HK2.out.trans hg))):Calls _ _ _ _ _).mono ?_);rintro e wq ⟨rfl,kq⟩;exact⟨by rw[hq1];try rfl,kq⟩
     exact hP AF
    simp only[nz];have HK3:=UX (HK2.out.trans hg9);go_wp2_with(first|(refine lM (.tmp 5) (HB2.out _ HK3.out) rX ?_ (hl:=HL.out.2))|(refine sN (.tmp 6) (.tmp 30) cs2 (HB3.out.grew HK3.out) rX ?_ (hl:=HL.out.2) (h1:=HO.out.2);intro w8 hb8 k8 d8)|(refine sN (.tmp 6) (.tmp 31) (AE 0 0) (HB3.out.grew HK3.out) rX ?_;intro w8 hb8 k8 d8)|fail);refine rT rX hb8 ?_;exact Ai (by unfold By;simp[hq2,hq1]) (HG.out.trans HK3.out) k8
   refine AG [(.int .i64 0),.bool true,.bool true,undef,undef,.bool true,.bool true,.agg cs1.toArray,.int .i64 0,.bool true,.bool true] ?_ fun w9 hg9=>?_
   ·simp only[nz];refine hP (hR (fun w' hg=>?_) ?_)
    ·go_simp;first|done|exact Uv _|exact⟨HF.out.2.2,Uv _⟩|exact⟨HF.out.1,Uv _⟩
    refine hP (hS (hS (hP (hP (hM (hl:=HL.out.1) (fun w' hg=>HB1.out _ (HK2.out.trans hg)) rX (hP (hR (fun w' hg=>?_) ?_)))))))
    ·go_simp;(with_reducible refine(CD e1 0 cs1 _ _ (HE1.out _ (HG.out.trans (HK2.out.trans hg))):Calls _ _ _ _ _).mono ?_);rintro e wq ⟨rfl,kq⟩;exact⟨by rw[hq1];try rfl,kq⟩
    exact hP AF
   simp only[nz];have HK3:=UX (HK2.out.trans hg9);go_wp2_with(first|(refine lM (.tmp 5) (HB2.out _ HK3.out) rX ?_ (hl:=HL.out.2))|(refine sN (.tmp 6) (.tmp 30) cs2 (HB3.out.grew HK3.out) rX ?_ (hl:=HL.out.2) (h1:=HO.out.2);intro w8 hb8 k8 d8)|(refine sN (.tmp 6) (.tmp 31) (AE 0 0) (HB3.out.grew HK3.out) rX ?_;intro w8 hb8 k8 d8)|fail);refine rT rX hb8 ?_ (hl:=HL.out.2);exact Cv (by unfold By;simp[hq2,hq1]) HQ.out (HR2.out _ (Uv _)) (HG.out.trans HK3.out) k8
  go_wp2_with(first|(refine lM (.tmp 5) (HB2.out _ HK.out) rX ?_ (hl:=HL.out.2))|(go_at_call 59;(with_reducible refine(CD e2 0 cs2 _ _ (HE2.out _ (HG.out.trans HK.out)):Calls _ _ _ _ _).mono ?_);rintro e3 w2 ⟨hret,k2⟩;rw[hq2]at hret;subst hret;have HK2:=UX (HK.out.trans k2);clear k2)|(refine lM (.tmp 4) (HB1.out _ HK2.out) rX ?_ (hl:=HL.out.1))|(refine sN (.tmp 6) (.tmp 18) cs1 (HB3.out.grew HK2.out) rX ?_ (hl:=HL.out.1) (h1:=HO.out.1);intro w8 hb8 k8 d8)|fail);refine rT rX hb8 ?_ (hl:=HL.out.1);exact Cv (by unfold By;simp[hq2,hq1]) HQ.out (HR1.out _ (Uv _)) (HG.out.trans HK2.out) k8
 have t0:(f==0)=false:=by rw[UY];exact f0
 have HF:=UX (UZ f2 (UZ f3 f0));clear f2 f3 f0;obtain⟨q2,hq2⟩:∃q,Io e2 0=q:=⟨_,rfl⟩;obtain⟨q1,hq1⟩:∃q,Io e1 0=q:=⟨_,rfl⟩;go_upto_region 4 with fail;rcases q2 with _|_
 ·go_upto_region 6 with(first|(refine lM (.tmp 5) (HB2.out _ HK.out) rX ?_ (hl:=HL.out.2))|(go_at_call 59;(with_reducible refine(CD e2 0 cs2 _ _ (HE2.out _ (HG.out.trans HK.out)):Calls _ _ _ _ _).mono ?_);rintro e3 w2 ⟨hret,k2⟩;rw[hq2]at hret;subst hret;have HK2:=UX (HK.out.trans k2);clear k2)|fail);refine AG [(.int .i64 f),.bool false,.bool false,(.int .i64 f),.bool false,.bool false,.bool false,undef,undef,undef,.bool false] ?_ fun w9 hg9=>?_
  ·simp only[nz];refine hP (hR (fun w' hg=>?_) ?_)
   ·go_simp;first|done|exact Uv _|exact⟨HF.out.2.2,Uv _⟩|exact⟨HF.out.1,Uv _⟩
   refine hP (hP (hR (fun w' hg=>?_) ?_))
   ·go_simp;first|done|exact Uv _|exact⟨HF.out.2.2,Uv _⟩|exact⟨HF.out.1,Uv _⟩
   exact hP (hP (hS (hS (hS (hP AF)))))
  simp only[nz];have HK3:=UX (HK2.out.trans hg9);go_wp2_with(first|((refine sN (.tmp 6) (.tmp 31) (AE 0 0) (HB3.out.grew HK3.out) rX ?_;intro w8 hb8 k8 d8))|fail);refine rT rX hb8 ?_;exact Ai (by unfold By;simp[HF.out.1,HF.out.2.1,HF.out.2.2,hq2,hq1]) (HG.out.trans HK3.out) k8
 go_wp2_with(first|(refine lM (.tmp 5) (HB2.out _ HK.out) rX ?_ (hl:=HL.out.2))|(go_at_call 59;(with_reducible refine(CD e2 0 cs2 _ _ (HE2.out _ (HG.out.trans HK.out)):Calls _ _ _ _ _).mono ?_);rintro e3 w2 ⟨hret,k2⟩;rw[hq2]at hret;subst hret;have HK2:=UX (HK.out.trans k2);clear k2)|(refine lM (.tmp 4) (HB1.out _ HK2.out) rX ?_ (hl:=HL.out.1))|(refine sN (.tmp 6) (.tmp 18) cs1 (HB3.out.grew HK2.out) rX ?_ (hl:=HL.out.1) (h1:=HO.out.1);intro w8 hb8 k8 d8)|fail);refine rT rX hb8 ?_ (hl:=HL.out.1);exact Cv (by unfold By;simp[HF.out.1,HF.out.2.1,HF.out.2.2,hq2,hq1]) HQ.out (HR1.out _ (Uv _)) (HG.out.trans HK2.out) k8
end Go.Proofs.YtkclnhpofkaclaaGreatDoor
