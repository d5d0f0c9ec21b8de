/- What the card of the law stands on: Query, Idem, Clone3, MatchL. -/
import Derived.Test.YthpflelgbadkcaaGreatDoorRewriteTypesP38
import Derived.Test.YthpflelgbadkcaaGreatDoorRewriteTypesP29
import Derived.Test.YthpflelgbadkcaaGreatDoorRewriteTypesP17
import Derived.Test.YthpflelgbadkcaaGreatDoorRewriteTypesP10
import Derived.Test.YthpflelgbadkcaaGreatDoorRewriteTypesP16
import Derived.Test.YthpflelgbadkcaaGreatDoorRewriteTypesP01
import Derived.Laws.Strings3
set_option maxRecDepth 100000
set_option maxHeartbeats 12800000
set_option linter.unusedVariables false
set_option linter.unusedSimpArgs false
namespace Go.Proofs.YthpflelgbadkcaaGreatDoor
open Go.RowKit Pl
def Ql (N D:Nat) (w:World) (e:Ending) (w':World):Prop:=∃(t:Ex) (cs:List Value),e= .returned (.agg cs.toArray)∧Ai w' (DK 0 w.heap.size w'.heap.size) t cs∧Cj N D t∧A4 w w'
theorem Ol (w:World) (v:Value) (l:List Int) (hr:Rd w w.heap.size v (l.map vi)) (hl:∀x∈l,BI x) (hll:l.length≤1000000000000000):
  Calls Tryz.prog 7 #[v] w (Ql 21 5 w):=by
 obtain⟨A,n,c,rfl,hn,hc⟩:=hr.form;have hbr:=VW w 29 (AJ 0 0).toArray;have hG:=(VU w).alloc (.cells (AJ 0 0).toArray 29);have hs:(w.alloc (.cells (AJ 0 0).toArray 29)).heap.size=w.heap.size+1:=by simp
 have HR:=V3 (V5 hr (V5 hl hll));clear hr hl hll hn hc;go_enter Tryz.func7,Tryz.ntmps7;go_upto_region 1 with fail;change Code.wp _ _ _ _ (w.alloc (.cells (AJ 0 0).toArray 29));generalize w.alloc (.cells (AJ 0 0).toArray 29)=w1 at*;have HS:=V3 hs;clear hs;go_upto_region 2 with fail;have hbg:=VW w1 63 #[.slice A n c,.int .i64 0];have hg2:=(VU w1).alloc (.cells #[.slice A n c,.int .i64 0] 63);generalize w1.alloc (.cells #[.slice A n c,.int .i64 0] 63)=w2 at*;have HGS:=V3 (show GS w2 w1.heap.size w.heap.size (.slice A n c) l 0 from⟨hbg,HR.out.1.grew (V6 _) (hG.trans hg2),by have:=HS.out;omega,HR.out.2⟩);have HZ:=V3 (show w1.heap.size=w.heap.size+1∧w1.heap.size<w2.heap.size from⟨HS.out,hbg.lt⟩);have hb2:=hbr.grew hg2;have HG:=V3 (hG.trans hg2);generalize w1.heap.size=z at*;have HEx:=V3 (show Calls Tryz.prog 27 #[.pointer (some ⟨z,0,none⟩),.int .i64 3] w2 (EP z w.heap.size (.slice A n c) l w2.heap.size (nX 2) (dX 2) 0 (cX 2) w2)from N4 2 3 (by decide) (by decide) w2 z w.heap.size (.slice A n c) l 0 HGS.out (by decide));clear hbr hG hbg hg2;go_wp2_with(first|(go_at_call 27;(with_reducible refine HEx.out.mono ?_);rintro e4 w4 ⟨t,U,i',rfl,hU,hgd,hgs,hi',k4⟩;have hU1:=AY hU;have hUl:U.length=11:=(by obtain⟨a,b,c,h, -⟩:=hU.open_;rw[h];rfl);have HU:=V3 hU;have HUl:=V3 hUl;have HGd:=V3 (V5 hgd k4);have hb4:=hb2.keep k4 (by have:=HZ.out;omega);clear hU hUl hgd hgs hi' k4)|((with_reducible refine AG 29 (.tmp 2) (.tmp 8) rfl ?_);refine BL 29 (.tmp 2) (.tmp 8) (w.heap.size) U (AJ 0 0) 29 (by rw[HUl.out];exact AE) HUl.out.symm hU1 rfl rfl rfl rfl hb4 ?_;intro w8 hb8 k8 d8));refine bodyPost_ret (AO rfl rfl (by rw[HUl.out];exact AE) Tryz.underlying29 rfl hb8) rfl ?_;have hz:=HZ.out;exact⟨t,U,rfl,Ai.keep (S:=fun b=>b=w.heap.size) (fun b hb=>⟨hb.2,by have:=hb.1;omega,.inr (by have:=hb.1;omega),VA hb.2 k8.size⟩) k8 _ _ HU.out,HGd.out.1,VV (VV HG.out HGd.out.2 fun b hb e=>by omega) k8 fun b hb e=>by omega⟩
end Go.Proofs.YthpflelgbadkcaaGreatDoor
namespace Go.Proofs.YthpflelgbadkcaaGreatDoor
open Pl
theorem JR {z:Int} {d:Nat} (hd:1≤d) {x y:Int} (h:Hh z d=(x,y,0)):Al x y=true:=by
 unfold Hh at h;split at h
 ·rename_i hc
  simp only[VP,and_true]at h;obtain⟨rfl,rfl⟩:=h;have hg:0<z.natAbs.gcd d:=Nat.gcd_pos_of_pos_right _ hd;have h1:(z.tdiv ((z.natAbs.gcd d:Nat):Int)).natAbs=z.natAbs/z.natAbs.gcd d:=by rw[Int.natAbs_tdiv,Int.natAbs_natCast];rfl
  have h2:(z.natAbs/z.natAbs.gcd d).gcd (d/z.natAbs.gcd d)=1:=Nat.coprime_div_gcd_div_gcd hg;have h3:1≤d/z.natAbs.gcd d:=Nat.div_pos (Nat.le_of_dvd hd (Nat.gcd_dvd_right _ _)) hg;generalize z.tdiv ((z.natAbs.gcd d:Nat):Int)=a at*;rw[←h1]at h2 hc;generalize d/z.natAbs.gcd d=b at*;refine decide_eq_true ⟨by omega,by omega,by omega,by omega,?_⟩;rw[Int.toNat_natCast];exact h2
 simp only[VP]at h;omega
theorem OL {a b:Int} (ha:1≤a) (hb:1≤b):1≤(a*b).toNat:=by
 have:=Int.mul_pos (show 0<a by omega) (show 0<b by omega);omega
theorem Gg {n1 d1 n2 d2 x y:Int} (h:EH n1 d1 n2 d2=(x,y,0)):Al x y=true:=by
 unfold EH at h;split at h
 ·rename_i hv
  exact JR (OL (BT hv.1).1 (BT hv.2).1) h
 simp only[VP]at h;omega
theorem JC {n1 d1 n2 d2 x y:Int} (h:Em n1 d1 n2 d2=(x,y,0)):Al x y=true:=by
 unfold Em at h;split at h
 ·rename_i hv
  exact JR (OL (BT hv.1).1 (BT hv.2).1) h
 simp only[VP]at h;omega
theorem Kt {f n1 d1 n2 d2 x y:Int} (h:EV f n1 d1 n2 d2=(x,y,0)):Al x y=true:=by
 unfold EV at h;split at h
 ·exact JC h
 split at h
 ·unfold Jx at h;split at h
  ·exact JC h
  simp only[VP]at h;omega
 split at h
 ·exact Gg h
 unfold Hy at h;split at h
 ·split at h
  ·simp only[VP]at h;omega
  split at h
  ·exact Gg h
  exact Gg h
 simp only[VP]at h;omega
mutual
def PV (p:Ex→Nat):Ex→Nat
 | .mk k f w o q n d nm ms bs ks=>p (.mk k f w o q n d nm ms bs ks)+Jv p ks
def Jv (p:Ex→Nat):List Ex→Nat
 |[]=>0
 |e::es=>PV p e+Jv p es
end
def UB (p:Ex→Nat):Prop:=(∀e,e.kind≠1→p e=0)∧∀e ks,p (e.withKids ks)=p e
theorem JJ (p:Ex→Nat) (e:Ex):PV p e=p e+Jv p e.kids:=by cases e;rw[PV];rfl
theorem Mf {p:Ex→Nat}:∀{es:List Ex} {e:Ex},e∈es→PV p e≤Jv p es
 |a::ax,e,h=>by
  unfold Jv;rcases List.mem_cons.1 h with rfl|h
  ·omega
  have:=Mf (p:=p) h;omega
theorem LK {p:Ex→Nat} {f:Ex→Ex}:∀(es:List Ex),(∀e∈es,PV p (f e)≤PV p e)→Jv p (es.map f)≤Jv p es
 |[],_=>V6 _
 |e::es,h=>by
  rw[List.map_cons];unfold Jv;have h1:=h e List.mem_cons_self;have h2:=LK es fun k hk=>h k (List.mem_cons_of_mem _ hk)
  omega
theorem IP {f:Ex→Ex}:∀(es:List Ex),(∀e∈es,BN (f e)≤BN e)→Br (es.map f)≤Br es
 |[],_=>V6 _
 |e::es,h=>by
  rw[List.map_cons];unfold Br;have h1:=h e List.mem_cons_self;have h2:=IP es fun k hk=>h k (List.mem_cons_of_mem _ hk)
  omega
theorem F9 {e:Ex} {f:Int} (h2:He e) (ho:Gq e f=true):pt1 e f∈e.kids∧pt2 e f∈e.kids:=by
 obtain⟨h3, -⟩:=VH ho;obtain⟨a,b,hk⟩:=h2 h3;unfold pt1 pt2;rw[VN ho,VN ho,hk];exact⟨List.mem_cons_self,by simp⟩
def Qa (f:Int) (a b t:Ex):Prop:=(t=a∨t=b)∨(t∈a.kids∨t∈b.kids)∨(∃x y,t=BB x y∧a.kind=0∧b.kind=0∧EV f a.num a.den b.num b.den=(x,y,0))∨(t=Ax 2 a (BB 0 1)∧BJ a=false)
theorem I8 {m:Nat} {f:Int} {a b t:Ex} (ha:He a) (hb:He b) (h:Bj m f a b=some t):Qa f a b t:=by
 unfold Bj at h;split at h
 ·unfold EC at h;split at h
  ·rename_i hz
   split at h
   ·rename_i h0
    cases h;refine .inr (.inr (.inl ⟨_,_,rfl,hz.1,hz.2,?_⟩));rw[←h0]
   cases h
  cases h
 ·unfold Bn at h;dsimp only at h;generalize (if f=2∨f=3 then(1:Int)else 0)=n at h;by_cases h1:H7 b n=true
  ·rw[VN h1]at h;cases h;exact .inl (.inl rfl)
  rw[VM h1]at h;split at h
  ·cases h;exact .inl (.inr rfl)
  cases h
 ·unfold Ay at h;split at h
  ·rename_i hc;cases h;exact .inr (.inl (.inl (F9 ha hc.2.1).1))
  split at h
  ·rename_i hc;cases h;exact .inr (.inl (.inl (F9 ha hc.2.1).2))
  split at h
  ·rename_i hc;cases h;exact .inr (.inl (.inr (F9 hb hc.2.1).2))
  split at h
  ·rename_i hc;cases h;exact .inr (.inl (.inl (F9 ha hc.2.1).1))
  split at h
  ·rename_i hc;cases h;exact .inr (.inl (.inr (F9 hb hc.2.1).1))
  cases h
 ·unfold Ah at h;split at h
  ·rename_i hc;cases h;exact .inr (.inl (.inl (F9 ha hc.2.1).1))
  split at h
  ·rename_i hc;cases h;exact .inr (.inl (.inl (F9 ha hc.2.1).2))
  split at h
  ·rename_i hc;cases h;exact .inr (.inl (.inl (F9 ha hc.2.1).1))
  split at h
  ·rename_i hc;cases h;exact .inr (.inl (.inr (F9 hb hc.2.1).1))
  cases h
 ·unfold Cq at h;split at h
  ·rename_i hc;cases h;exact .inr (.inr (.inr ⟨rfl,hc.2.2⟩))
  cases h
 unfold CA at h;split at h
 ·cases h;exact .inl (.inl rfl)
 split at h
 ·cases h;exact .inl (.inr rfl)
 cases h
def Ul (e:Ex):Prop:=∀a b,e.kids=[a,b]→e.kind=3→Cs e.fn a b=none
def NF (e:Ex):Prop:=BW Ul e
theorem Pw (x y:Int):NF (BB x y):=B3.2 ⟨(fun a b h=>by cases h),(fun k hk=>nomatch hk)⟩
theorem QM {e:Ex} (h:BJ e=false):e.kind≠0:=by
 intro h0;rw[DA,h0]at h;simp at h
theorem Og {a:Ex} (h:BJ a=false):Cs 2 a (BB 0 1)=none:=by
 have ha:=QM h;have hb:H7 (BB 0 1) 1=false:=rfl;have hi:∀n:Int,H7 a n=false:=fun n=>VI fun h=>ha h.1
 have ho:∀g:Int,Gq (BB 0 1) g=false:=fun g=>VI fun h=>by have:=h.1;revert this;show ¬((0:Int)=3);decide
 have hcp:∀c,NG c (BB 0 1)=false:=by
  intro c;unfold NG;cases hq:Fw c (BB 0 1)with
  |false=>simp
  |true=>
   cases c with
   |mk k f w o q n d nm ms bs ks=>
    unfold BB at hq;unfold Fw at hq;rw[Bool.and_eq_true]at hq;obtain⟨rfl, -, -, -, -,rfl,rfl, -⟩:=VH hq.1;have:H7 (Ex.mk 0 f w o q 0 1 nm ms bs ks) 0=true:=decide_eq_true ⟨rfl,rfl,rfl⟩;rw[this];simp
 refine Gn fun m hm=>?_
 rcases(by omega:m=0∨m=1∨m=2∨m=3∨m=4∨m=5)with rfl|rfl|rfl|rfl|rfl|rfl
 ·show EC 2 a (BB 0 1)=none;unfold EC;rw[VM fun h=>ha h.1]
 ·show Bn 2 a (BB 0 1)=none;unfold Bn;simp[hb,hi]
 ·show Ay 2 a (BB 0 1)=none;unfold Ay;simp
 ·show Ah 2 a (BB 0 1)=none;unfold Ah;simp[ho,hcp]
 ·show Cq 2 a (BB 0 1)=none;unfold Cq;simp
 show CA 2 a (BB 0 1)=none;unfold CA;simp
theorem SQ {m:Nat} {f:Int} {a b t:Ex} (h2a:He a) (h2b:He b) (ha:NF a) (hb:NF b) (h:Bj m f a b=some t):NF t:=by
 rcases I8 h2a h2b h with(rfl|rfl)|(h|h)|⟨x,y,rfl, -⟩|⟨rfl,hr⟩
 ·exact ha
 ·exact hb
 ·exact ha.kid h
 ·exact hb.kid h
 ·exact Pw x y
 refine B3.2 ⟨fun p q hk _=>?_,fun k hk=>?_⟩
 ·have:[a,BB 0 1]=[p,q]:=hk;injection this with e1 e2;injection e2 with e2 _;subst e1 e2;exact Og hr
 rcases List.mem_cons.1 hk with rfl|hk
 ·exact ha
 obtain rfl:=VF.1 hk;exact Pw 0 1
theorem Eg {e:Ex} (h:Bq e=0):He e:=fun h3=>by
 obtain⟨hl, -⟩:=Fj (Da h) h3;rcases hks:e.kids with _|⟨a,_|⟨b,_|⟨c,l⟩⟩⟩
 ·rw[hks]at hl;simp at hl
 ·rw[hks]at hl;simp at hl
 ·exact⟨a,b,rfl⟩
 rw[hks]at hl;simp at hl
def Be (e:Ex):Prop:=BW Sj e
theorem Be.kids2 {e:Ex} (h:Be e) (h3:e.kind=3):∃a b,e.kids=[a,b]∧Be a∧Be b∧0≤e.fn∧e.fn≤3:=by
 obtain⟨a,b,hk⟩:=Eg h.top.2 h3;exact⟨a,b,hk,h.kid (by rw[hk];simp),h.kid (by rw[hk];simp),(Fj (Da h.top.2) h3).2⟩
def GG (t e:Ex):Prop:=AH t≤AH e∧BN t≤BN e∧∀p,UB p→PV p t≤PV p e
theorem GG.trans {a b c:Ex} (h:GG a b) (k:GG b c):GG a c:=⟨VD h.1 k.1,VD h.2.1 k.2.1,fun p hp=>VD (h.2.2 p hp) (k.2.2 p hp)⟩
theorem Hc {e k:Ex} (h:k∈e.kids):GG k e:=by
 have h1:=AT h;have h2:=IS h;have h4:=Az e;have h5:=Ei e;refine⟨by omega,by omega,fun p hp=>?_⟩;have h3:=Mf (p:=p) h;rw[JJ p e];omega
theorem Qp {p:Ex→Nat} (hp:UB p) (x y:Int):PV p (BB x y)=0:=by rw[JJ,hp.1 _ (by show ¬((0:Int)=1);decide)];rfl
theorem Pf {e:Ex} (x y:Int):GG (BB x y) e:=⟨Aj e,IN e,fun p hp=>by rw[Qp hp];exact Nat.zero_le _⟩
theorem QC {x y:Int} (h:Al x y=true):Be (BB x y):=(Fp h).2.2
theorem OT {m:Nat} {f:Int} {a b e t:Ex} (hk:e.kids=[a,b]) (h2a:He a) (h2b:He b) (h:Bj m f a b=some t):GG t e:=by
 have la:GG a e:=Hc (by rw[hk];simp);have lb:GG b e:=Hc (by rw[hk];simp);rcases I8 h2a h2b h with(rfl|rfl)|(h|h)|⟨x,y,rfl, -⟩|⟨rfl,hr⟩
 ·exact la
 ·exact lb
 ·exact(Hc h).trans la
 ·exact(Hc h).trans lb
 ·exact Pf x y
 have h4:=Az e;have h5:=Ei e;have pb:=Aj b;have db:=IN b;have da:=IN a;rw[hk]at h4 h5;have e4:Ar [a,b]=AH a+(AH b+0):=rfl;have e5:Br [a,b]=max (BN a) (max (BN b) 0):=rfl;refine⟨?_,?_,?_⟩
 ·show 1+(AH a+(1+0))≤AH e;omega
 ·show max (BN a) (max 1 0)+1≤BN e;omega
 intro p hp;have h6:=JJ p (Ax 2 a (BB 0 1));rw[hp.1 _ (by show ¬((3:Int)=1);decide)]at h6;have h7:Jv p (Ax 2 a (BB 0 1)).kids=PV p a+(PV p (BB 0 1)+0):=rfl;rw[Qp hp]at h7;have h8:=la.2.2 p hp;omega
theorem PT {m:Nat} {f:Int} {a b t:Ex} (ha:Be a) (hb:Be b) (h:Bj m f a b=some t):Be t:=by
 rcases I8 (Eg ha.top.2) (Eg hb.top.2) h with(rfl|rfl)|(h|h)|⟨x,y,rfl, -, -,hap⟩|⟨rfl,hr⟩
 ·exact ha
 ·exact hb
 ·exact ha.kid h
 ·exact hb.kid h
 ·exact QC (Kt hap)
 exact(Aq (f:=2) (by decide) (N1:=AH a) (D1:=BN a) ⟨V6 _,V6 _,ha⟩ (Fp (n:=0) (d:=1) (by decide))).2.2
def Na (e:Ex) (L:Nat):Bool:=
 (decide (e.kind=0∧e.fn=0∧L=0)&&Al e.num e.den||decide (e.kind=1∧0≤e.fn∧e.fn≤7∧L=0∧e.num=0∧e.den=0)||decide (e.kind=2∧0≤e.fn∧e.fn≤4∧L=1∧e.num=0∧e.den=0)||decide (e.kind=3∧0≤e.fn∧e.fn≤3∧L=2∧e.num=0∧e.den=0))
 &&decide (e.kind≠1→e.window=0∧e.offset=0∧e.name.size=0∧e.ms.length=0)&&decide (e.kind≠1→e.kind≠2→e.k=0)&&decide (e.kind≠2→e.bys.length=0)
theorem MK (e:Ex):BH e=Na e e.kids.length:=rfl
theorem Ow (e:Ex) (ks:List Ex) (L:Nat):Na (e.withKids ks) L=Na e L:=by cases e;rfl
section
variable (e:Ex) (ks:List Ex)
theorem Rt (h:e.kids.length=ks.length):Bq (e.withKids ks)=Bq e:=by
 have hs:BH (e.withKids ks)=BH e:=by rw[MK,MK,Bp,←h,Ow]
 have hn:Bs (e.withKids ks)=Bs e:=by cases e;rfl
 have hw:Ad (e.withKids ks)=Ad e:=by cases e;rfl
 unfold Bq;rw[hs,hn,hw,Lq,Iu]
theorem Tb (h:Bz e):Bz (e.withKids ks):=by cases e;exact h
theorem Tr {p:Ex→Nat} (hp:UB p):PV p (e.withKids ks)=p e+Jv p ks:=by rw[JJ,hp.2,Bp]
theorem RC:AH (e.withKids ks)=1+Ar ks:=by rw[Az,Bp]
theorem Pv:BN (e.withKids ks)=Br ks+1:=by rw[Ei,Bp]
end
theorem Re {f:Ex→Ex} (e:Ex) (h:∀k∈e.kids,GG (f k) k):GG (e.withKids (e.kids.map f)) e:=by
 have h1:=Fl (f:=f) e.kids fun k hk=>(h k hk).1
 have h2:=IP (f:=f) e.kids fun k hk=>(h k hk).2.1
 have h4:=Az e;have h5:=Ei e;refine⟨by rw[RC];omega,by rw[Pv];omega,fun p hp=>?_⟩;have h3:=LK (p:=p) (f:=f) e.kids fun k hk=>(h k hk).2.2 p hp
 rw[Tr e _ hp,JJ p e];omega
theorem Rm {f:Ex→Ex} {e:Ex} (he:Be e) (h:∀k∈e.kids,Be (f k)):Be (e.withKids (e.kids.map f)):=by
 refine B3.2 ⟨⟨Tb e _ he.top.1,(Rt e _ (by simp)).trans he.top.2⟩,fun k hk=>?_⟩;rw[Bp]at hk;obtain⟨k',hk',rfl⟩:=List.mem_map.1 hk;exact h k' hk'
theorem Fv:∀(n:Nat) (e:Ex),AH e≤n→Be e→Be (AW e)∧GG (AW e) e∧NF (AW e)
 |0,e,h,_=>absurd (Aj e) (by omega)
 |n+1,e,h,hg=>by
  have h2:=Az e;have hin:∀k∈e.kids,Be (AW k)∧GG (AW k) k∧NF (AW k):=fun k hk=>Fv n k (by have:=AT hk;omega) (hg.kid hk)
  have hw:Be (e.withKids (e.kids.map AW)):=Rm hg fun k hk=>(hin k hk).1
  have hl:GG (e.withKids (e.kids.map AW)) e:=Re e fun k hk=>(hin k hk).2.1
  rw[Ff];by_cases h3:e.kind=3
  ·obtain⟨a,b,hk,hga,hgb, -⟩:=hg.kids2 h3;have hA:=hin a (by rw[hk];simp);have hB:=hin b (by rw[hk];simp);have hk2:(e.withKids (e.kids.map AW)).kids=[AW a,AW b]:=by rw[Bp,hk];rfl
   rw[I2 hk2 (by rw[Cc];exact h3),Mg];cases hr:Cs e.fn (AW a) (AW b)with
   |some t=>
    obtain⟨m,hm,ht⟩:=I1 hr;have t2a:=Eg hA.1.top.2;have t2b:=Eg hB.1.top.2;exact⟨PT hA.1 hB.1 ht,(OT hk2 t2a t2b ht).trans hl,SQ t2a t2b hA.2.2 hB.2.2 ht⟩
   |none=>
    refine⟨hw,hl,B3.2 ⟨fun p q hpq _=>?_,fun k hkk=>?_⟩⟩
    ·change(e.withKids (e.kids.map AW)).kids=[p,q]at hpq;rw[hk2]at hpq;injection hpq with e1 e2;injection e2 with e2 _;subst e1 e2;show Cs (e.withKids (e.kids.map AW)).fn _ _=none;rw[Mg];exact hr
    change k∈(e.withKids (e.kids.map AW)).kids at hkk;rw[Bp]at hkk;obtain⟨k',hk',rfl⟩:=List.mem_map.1 hkk;exact(hin k' hk').2.2
  rw[I7 (by rw[Cc];exact h3)];refine⟨hw,hl,B3.2 ⟨fun p q _ h=>absurd (by rw[Cc]at h;exact h) h3,fun k hkk=>?_⟩⟩;rw[Bp]at hkk;obtain⟨k',hk',rfl⟩:=List.mem_map.1 hkk;exact(hin k' hk').2.2
end Go.Proofs.YthpflelgbadkcaaGreatDoor
namespace Go.Proofs.YthpflelgbadkcaaGreatDoor
open Go.RowKit Pl
end Go.Proofs.YthpflelgbadkcaaGreatDoor
namespace Go.Proofs.YthpflelgbadkcaaGreatDoor
open Go.RowKit Go.Shelf Pl
def Bi (l:ByteArray×ByteArray):List Value:=[.string l.1,.string l.2]
theorem Sg (l:ByteArray×ByteArray):∀v∈Bi l,v.oneCell'=true:=by
 intro v hv;simp only[Bi,List.mem_cons,List.not_mem_nil,or_false]at hv;rcases hv with rfl|rfl<;>rfl
theorem Tg (m:Mt):∀v∈Ac m,v.oneCell'=true:=by
 intro v hv;simp only[Ac,List.mem_cons,List.not_mem_nil,or_false]at hv;rcases hv with rfl|rfl|rfl<;>rfl
theorem OB:(Tryz.prog.info? 117).map (·.size)=some 2:=by kernel_rfl
theorem RK:(Tryz.prog.info? 68).map (·.size)=some 3:=by kernel_rfl
def Nx (s p:ByteArray):Bool:=decide (p.size≤s.size)&&((s.extract 0 p.size).toList==p.toList)
theorem Lu (s p:ByteArray) (w:World):Calls Tryz.prog 106 #[.string s,.string p] w fun e w'=>e= .returned (.bool (Nx s p))∧w'=w:=by
 unfold Nx;go_enter Tryz.func106,Tryz.ntmps106;go_wp2
 ·rename_i h
  go_ret;exact⟨by simp[h],rfl⟩
 ·rename_i h
  go_ret;exact⟨by simp[h],rfl⟩
theorem Mx (s p:ByteArray) (w:World):Calls Tryz.prog 74 #[.string s,.string p] w fun e w'=>e= .returned (.bool (Nx s p))∧w'=w:=by
 have H:=V3 (Lu s p w);go_enter Tryz.func74,Tryz.ntmps74;go_wp2_with(go_at_call 106;(with_reducible refine H.out.mono ?_);rintro e w' ⟨rfl,hw⟩;rw[hw]);go_ret;exact⟨rfl,rfl⟩
def Mv (ls:List (ByteArray×ByteArray)) (n:ByteArray):ByteArray:=match ls.find? (fun l=>l.1.toList==n.toList)with
 |some l=>l.2
 |none=>⟨#[]⟩
theorem Oi {α:Type} {p:α→Bool} {ls:List α} {j:Nat} {x:α} (hx:ls[j]? =some x) (h:(ls.take j).find? p=none):ls.take (j+1)=ls.take j++[x]∧(p x=true→ls.find? p=some x):=by
 have hj:=(VG.1 hx).1;have e1:ls.take (j+1)=ls.take j++[x]:=by rw[←List.take_append_getElem hj,(VG.1 hx).2]
 refine⟨e1,fun hp=>?_⟩;rw[←List.take_append_drop (j+1) ls,e1,List.append_assoc,List.find?_append,h];simp[hp]
theorem Rf (ls:List (ByteArray×ByteArray)) (n:ByteArray) (v:Value) (w:World) (hr:Cg w w.heap.size 2 v (ls.map Bi)) (hn:ls.length≤1000000):Calls Tryz.prog 73 #[v,.string n] w fun e w'=>e= .returned (.string (Mv ls n))∧A4 w w':=by
 obtain⟨A,c,rfl,hc,hx⟩:=hr;rw[List.length_map]at hc hx ⊢;obtain⟨m,hm⟩:∃m,ls.length=m:=⟨_,rfl⟩;rw[hm]at hc hx hn ⊢;have HM:=V3 hm;have HX:=V3 hx;clear hm hx;go_enter Tryz.func73,Tryz.ntmps73;go_wp2_with fail;go_loopw [9] (fun i wr=>∃j:Nat,j≤m∧i= .int .i64 (j:Nat)∧(ls.take j).find? (fun l=>l.1.toList==n.toList)=none∧A4 w wr) (fun i _=>m-(intOf i).toNat)
 case atStart=>exact⟨0,by omega,rfl,rfl,VU _⟩
 case round=>
  obtain⟨j,hj,rfl,hf,hG⟩:=hrel;have HF:=V3 hf;have HG:=V3 hG;clear hf hG;by_cases hlt:j<m
  ·obtain⟨x,hxj⟩:∃x,ls[j]? =some x:=⟨_,VB (by rw[HM.out];exact hlt)⟩;obtain⟨b,o,hA,hb,hcell⟩:=HX.out (by omega);subst hA;have hrow:=hcell j (Bi x) (by rw[List.getElem?_map,hxj];rfl);have HRw:=V3 (AU (S:=fun _=>False) hrow hb HG.out (fun h=>h));have HS:=V3 (Oi hxj HF.out);clear hrow hcell hxj hb;obtain⟨q,hq⟩:∃q,(x.1.toList==n.toList)=q:=⟨_,rfl⟩;cases q
   ·have hne:¬(x.1.toList=n.toList):=by simpa using hq
    go_wp2_with(first|((with_reducible refine AF 117 (.tmp 11) rfl ?_);refine wpList_load_mid rfl 117 (.tmp 11) rfl b (o+j*2) rfl (Bi x) _ HRw.out Tryz.underlying117 rfl OB ?_)|((with_reducible refine AG 117 (.tmp 6) (.tmp 12) rfl ?_);refine BL 117 (.tmp 6) (.tmp 12) (wr.heap.size) (Bi x) [.string ⟨#[]⟩,.string ⟨#[]⟩] 117 OB rfl (Sg x) rfl rfl rfl rfl (VW wr 117 _) ?_;intro w6 hb6 k6 d6;have g6:A4 wr w6:=VV ((VU wr).alloc _) k6 (fun i hi e=>by omega);have HB6:=V3 hb6;have HG6:=V3 g6;have c0:w6.cell? ⟨wr.heap.size,0,none⟩=some (.string x.1):=hb6.cell 0;have c1:w6.cell? ⟨wr.heap.size,1,none⟩=some (.string x.2):=hb6.cell 1;clear hb6 k6 d6 g6));go_roundw
    case rel=>exact⟨j+1,by omega,by go_num,by rw[HS.out.1,List.find?_append,HF.out];simp[hq],HG.out.trans HG6.out⟩
    case measure=>simp[intOf];omega
   have hne:(x.1.toList=n.toList):=by simpa using hq
   go_wp2_with(first|((with_reducible refine AF 117 (.tmp 11) rfl ?_);refine wpList_load_mid rfl 117 (.tmp 11) rfl b (o+j*2) rfl (Bi x) _ HRw.out Tryz.underlying117 rfl OB ?_)|((with_reducible refine AG 117 (.tmp 6) (.tmp 12) rfl ?_);refine BL 117 (.tmp 6) (.tmp 12) (wr.heap.size) (Bi x) [.string ⟨#[]⟩,.string ⟨#[]⟩] 117 OB rfl (Sg x) rfl rfl rfl rfl (VW wr 117 _) ?_;intro w6 hb6 k6 d6;have g6:A4 wr w6:=VV ((VU wr).alloc _) k6 (fun i hi e=>by omega);have HB6:=V3 hb6;have HG6:=V3 g6;have c0:w6.cell? ⟨wr.heap.size,0,none⟩=some (.string x.1):=hb6.cell 0;have c1:w6.cell? ⟨wr.heap.size,1,none⟩=some (.string x.2):=hb6.cell 1;clear hb6 k6 d6 g6));go_ret;exact⟨by unfold Mv;rw[HS.out.2 hq];rfl,HG.out.trans HG6.out⟩
  obtain rfl:j=m:=by omega
  have hall:ls.find? (fun l=>l.1.toList==n.toList)=none:=by have:=HF.out;rwa[List.take_of_length_le (by rw[HM.out];exact V6 _)]at this
  have HA:=V3 hall;clear hall;go_wp2_with fail;go_ret;exact⟨by unfold Mv;rw[HA.out];rfl,HG.out⟩
def Sl (ls:List (ByteArray×ByteArray)) (m:Mt):Bool:=if m.2.1=0 then(Mv ls m.1).toList==m.2.2.toList else if m.2.1=1 then !((Mv ls m.1).toList==m.2.2.toList)else if m.2.1=2 then Nx (Mv ls m.1) m.2.2 else false
def Gi (ls:List (ByteArray×ByteArray)) (ms:List Mt):Bool:=ms.all (Sl ls)
theorem QQ {α:Type} {p:α→Bool} {ls:List α} {j:Nat} {x:α} (hx:ls[j]? =some x) (h:(ls.take j).all p=true):(ls.take (j+1)).all p=p x∧(p x=false→ls.all p=false):=by
 have hj:=(VG.1 hx).1;have e1:ls.take (j+1)=ls.take j++[x]:=by rw[←List.take_append_getElem hj,(VG.1 hx).2]
 refine⟨by rw[e1,List.all_append,h];simp,fun hp=>?_⟩;rw[←List.take_append_drop (j+1) ls,e1,List.all_append,List.all_append];simp[hp]
theorem P2 (ls:List (ByteArray×ByteArray)) (ms:List Mt) (v u:Value) (w:World) (hr:Cg w w.heap.size 2 v (ls.map Bi)) (hn:ls.length≤1000000) (hu:Cg w w.heap.size 3 u (ms.map Ac)) (hmn:ms.length≤1000000):
  Calls Tryz.prog 41 #[v,u] w fun e w'=>e= .returned (.bool (Gi ls ms))∧A4 w w':=by
 have HGt:=V3 (fun w' (g:A4 w w') n=>Rf ls n v w' (hr.keep (V6 _) g.size g (fun _ _ h=>h)) hn);obtain⟨A0,c0,rfl, -, -⟩:=hr;obtain⟨A,c,rfl,hc,hx⟩:=hu;rw[List.length_map]at hc hx HGt ⊢;rw[List.length_map];obtain⟨m,hm⟩:∃m,ms.length=m:=⟨_,rfl⟩;rw[hm]at hc hx hmn ⊢;have HM:=V3 hm;have HX:=V3 hx;have HPr:=V3 (fun s p w'=>Mx s p w');clear hm hx;go_enter Tryz.func41,Tryz.ntmps41;go_wp2_with fail;go_loopw [11] (fun i wr=>∃j:Nat,j≤m∧i= .int .i64 (j:Nat)∧(ms.take j).all (Sl ls)=true∧A4 w wr) (fun i _=>m-(intOf i).toNat)
 case atStart=>exact⟨0,by omega,rfl,rfl,VU _⟩
 case round=>
  obtain⟨j,hj,rfl,hf,hG⟩:=hrel;have HF:=V3 hf;have HG:=V3 hG;clear hf hG;by_cases hlt:j<m
  ·obtain⟨x,hxj⟩:∃x,ms[j]? =some x:=⟨_,VB (by rw[HM.out];exact hlt)⟩;obtain⟨b,o,hA,hb,hcell⟩:=HX.out (by omega);subst hA;have hrow:=hcell j (Ac x) (by rw[List.getElem?_map,hxj];rfl);have HRw:=V3 (AU (S:=fun _=>False) hrow hb HG.out (fun h=>h));have HS:=V3 (QQ hxj HF.out);clear hrow hcell hxj hb;go_upto_region 5 with(first|((with_reducible refine AF 68 (.tmp 13) rfl ?_);refine wpList_load_mid rfl 68 (.tmp 13) rfl b (o+j*3) rfl (Ac x) _ HRw.out Tryz.underlying68 rfl RK ?_)|((with_reducible refine AG 68 (.tmp 6) (.tmp 14) rfl ?_);refine BL 68 (.tmp 6) (.tmp 14) (wr.heap.size) (Ac x) [.string ⟨#[]⟩,.int .i64 0,.string ⟨#[]⟩] 68 RK rfl (Tg x) rfl rfl rfl rfl (VW wr 68 _) ?_;intro w6 hb6 k6 d6;have g6:A4 wr w6:=VV ((VU wr).alloc _) k6 (fun i hi e=>by omega);have HB6:=V3 hb6;have HG6:=V3 g6;have c0:w6.cell? ⟨wr.heap.size,0,none⟩=some (.string x.1):=hb6.cell 0;have c1:w6.cell? ⟨wr.heap.size,1,none⟩=some (.int .i64 x.2.1):=hb6.cell 1;have c2:w6.cell? ⟨wr.heap.size,2,none⟩=some (.string x.2.2):=hb6.cell 2;clear hb6 k6 d6 g6)|(go_at_call 73;(with_reducible refine(HGt.out _ (HG.out.trans HG6.out) x.1).mono ?_);rintro e7 w7 ⟨rfl,k7⟩;have HG7:=V3 k7;have HB7:=V3 (HB6.out.grew k7);have d1:w7.cell? ⟨wr.heap.size,1,none⟩=some (.int .i64 x.2.1):=HB7.out.cell 1;have d2:w7.cell? ⟨wr.heap.size,2,none⟩=some (.string x.2.2):=HB7.out.cell 2;clear k7));have HG9:=V3 (HG.out.trans (HG6.out.trans HG7.out));clear c0 c1 c2 HGt;obtain⟨p,hp⟩:∃p,Sl ls x=p:=⟨_,rfl⟩;rw[hp]at HS;obtain⟨k,hk⟩:∃k,x.2.1=k:=⟨_,rfl⟩;obtain⟨g,hg⟩:∃g,Mv ls x.1=g:=⟨_,rfl⟩;unfold Sl at hp;rw[hk]at d1 hp;rw[hg]at hp ⊢;clear hk hg;by_cases k0:k=0
   ·subst k0;rw[VN rfl]at hp;cases p
    ·first
      |(have hne:¬(g.toList=x.2.2.toList):=by simpa using hp)
      |skip
     go_wp2_with((go_at_call 74;(with_reducible refine(HPr.out _ _ _).mono ?_);rintro e8 w8 ⟨rfl,hw8⟩;rw[hw8,hp];clear hw8));go_ret;exact⟨by show _=Ending.returned (.bool (ms.all (Sl ls)));rw[HS.out.2 (by trivial)];rfl,HG9.out⟩
    first
     |(have hne:g.toList=x.2.2.toList:=by simpa using hp)
     |skip
    go_wp2_with((go_at_call 74;(with_reducible refine(HPr.out _ _ _).mono ?_);rintro e8 w8 ⟨rfl,hw8⟩;rw[hw8,hp];clear hw8));go_roundw
    case rel=>exact⟨j+1,by omega,by go_num,HS.out.1,HG9.out⟩
    case measure=>simp[intOf];omega
   by_cases k1:k=1
   ·subst k1;rw[VM (by decide),VN rfl]at hp;cases p
    ·have hne:g.toList=x.2.2.toList:=by simpa using hp
     go_wp2_with((go_at_call 74;(with_reducible refine(HPr.out _ _ _).mono ?_);rintro e8 w8 ⟨rfl,hw8⟩;rw[hw8,hp];clear hw8));go_ret;exact⟨by show _=Ending.returned (.bool (ms.all (Sl ls)));rw[HS.out.2 (by trivial)];rfl,HG9.out⟩
    have hne:¬(g.toList=x.2.2.toList):=by simpa using hp
    go_wp2_with((go_at_call 74;(with_reducible refine(HPr.out _ _ _).mono ?_);rintro e8 w8 ⟨rfl,hw8⟩;rw[hw8,hp];clear hw8));go_roundw
    case rel=>exact⟨j+1,by omega,by go_num,HS.out.1,HG9.out⟩
    case measure=>simp[intOf];omega
   by_cases k2:k=2
   ·subst k2;rw[VM (by decide),VM (by decide),VN rfl]at hp;cases p
    ·first
      |(have hne:¬(g.toList=x.2.2.toList):=by simpa using hp)
      |skip
     go_wp2_with((go_at_call 74;(with_reducible refine(HPr.out _ _ _).mono ?_);rintro e8 w8 ⟨rfl,hw8⟩;rw[hw8,hp];clear hw8));go_ret;exact⟨by show _=Ending.returned (.bool (ms.all (Sl ls)));rw[HS.out.2 (by trivial)];rfl,HG9.out⟩
    first
     |(have hne:g.toList=x.2.2.toList:=by simpa using hp)
     |skip
    go_wp2_with((go_at_call 74;(with_reducible refine(HPr.out _ _ _).mono ?_);rintro e8 w8 ⟨rfl,hw8⟩;rw[hw8,hp];clear hw8));go_roundw
    case rel=>exact⟨j+1,by omega,by go_num,HS.out.1,HG9.out⟩
    case measure=>simp[intOf];omega
   rw[VM k0,VM k1,VM k2]at hp;have t0:(k==0)=false:=by rw[V4];exact k0
   have t1:(k==1)=false:=by rw[V4];exact k1
   have t2:(k==2)=false:=by rw[V4];exact k2
   subst hp;go_wp2_with((go_at_call 74;(with_reducible refine(HPr.out _ _ _).mono ?_);rintro e8 w8 ⟨rfl,hw8⟩;rw[hw8,hp];clear hw8));go_ret;exact⟨by show _=Ending.returned (.bool (ms.all (Sl ls)));rw[HS.out.2 (by trivial)];rfl,HG9.out⟩
  obtain rfl:j=m:=by omega
  have hall:Gi ls ms=true:=by have:=HF.out;rwa[List.take_of_length_le (by rw[HM.out];exact V6 _)]at this
  have HA:=V3 hall;clear hall;go_wp2_with fail;go_ret;exact⟨by rw[HA.out];rfl,HG.out⟩
end Go.Proofs.YthpflelgbadkcaaGreatDoor
