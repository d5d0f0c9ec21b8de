/- What the card of the law stands on: Query, Idem. -/
import Derived.Test.YthpflelgbadkcaaGreatDoorRewriteSizeP01
import Derived.Test.YthpflelgbadkcaaGreatDoorRewriteSizeP44
import Derived.Test.YthpflelgbadkcaaGreatDoorRewriteSizeP35
import Derived.Test.YthpflelgbadkcaaGreatDoorRewriteSizeP20
import Derived.Test.YthpflelgbadkcaaGreatDoorRewriteSizeP11
set_option maxRecDepth 100000
set_option maxHeartbeats 12800000
set_option linter.unusedVariables false
set_option linter.unusedSimpArgs false
namespace Go.Proofs.YthpflelgbadkcaaGreatDoor
open Go.RowKit Pl
def Od (N D:Nat) (w:World) (e:Ending) (w':World):Prop:=∃(t:Ex) (cs:List Value),e= .returned (.agg cs.toArray)∧Ax w' (CW 0 w.heap.size w'.heap.size) t cs∧Cf N D t∧A5 w w'
theorem NS (w:World) (v:Value) (l:List Int) (hr:Rd w w.heap.size v (l.map vi)) (hl:∀x∈l,Bc x) (hll:l.length≤1000000000000000):
  Calls Tryz.prog 7 #[v] w (Od 21 5 w):=by
 obtain⟨A,n,c,rfl,hn,hc⟩:=hr.form;have hbr:=Sc w 29 (AH 0 0).toArray;have hG:=(Sa w).alloc (.cells (AH 0 0).toArray 29);have hs:(w.alloc (.cells (AH 0 0).toArray 29)).heap.size=w.heap.size+1:=by simp
 have HR:=S9 (SC hr (SC hl hll));clear hr hl hll hn hc;go_enter Tryz.func7,Tryz.ntmps7;go_upto_region 1 with fail;change Code.wp _ _ _ _ (w.alloc (.cells (AH 0 0).toArray 29));generalize w.alloc (.cells (AH 0 0).toArray 29)=w1 at*;have HS:=S9 hs;clear hs;go_upto_region 2 with fail;have hbg:=Sc w1 63 #[.slice A n c,.int .i64 0];have hg2:=(Sa w1).alloc (.cells #[.slice A n c,.int .i64 0] 63);generalize w1.alloc (.cells #[.slice A n c,.int .i64 0] 63)=w2 at*;have HGS:=S9 (show GS w2 w1.heap.size w.heap.size (.slice A n c) l 0 from⟨hbg,HR.out.1.grew (SD _) (hG.trans hg2),by have:=HS.out;omega,HR.out.2⟩);have HZ:=S9 (show w1.heap.size=w.heap.size+1∧w1.heap.size<w2.heap.size from⟨HS.out,hbg.lt⟩);have hb2:=hbr.grew hg2;have HG:=S9 (hG.trans hg2);generalize w1.heap.size=z at*;have HEx:=S9 (show Calls Tryz.prog 27 #[.pointer (some ⟨z,0,none⟩),.int .i64 3] w2 (Cw z w.heap.size (.slice A n c) l w2.heap.size (nX 2) (dX 2) 0 (cX 2) w2)from ME 2 3 (by decide) (by decide) w2 z w.heap.size (.slice A n c) l 0 HGS.out (by decide));clear hbr hG hbg hg2;go_wp2_with(first|(go_at_call 27;(with_reducible refine HEx.out.mono ?_);rintro e4 w4 ⟨t,U,i',rfl,hU,hgd,hgs,hi',k4⟩;have hU1:=AY hU;have hUl:U.length=11:=(by obtain⟨a,b,c,h, -⟩:=hU.open_;rw[h];rfl);have HU:=S9 hU;have HUl:=S9 hUl;have HGd:=S9 (SC hgd k4);have hb4:=hb2.keep k4 (by have:=HZ.out;omega);clear hU hUl hgd hgs hi' k4)|((with_reducible refine AF 29 (.tmp 2) (.tmp 8) rfl ?_);refine Ar 29 (.tmp 2) (.tmp 8) (w.heap.size) U (AH 0 0) 29 (by rw[HUl.out];exact AD) HUl.out.symm hU1 rfl rfl rfl rfl hb4 ?_;intro w8 hb8 k8 d8));refine bodyPost_ret (AP rfl rfl (by rw[HUl.out];exact AD) Tryz.underlying29 rfl hb8) rfl ?_;have hz:=HZ.out;exact⟨t,U,rfl,Ax.keep (S:=fun b=>b=w.heap.size) (fun b hb=>⟨hb.2,by have:=hb.1;omega,.inr (by have:=hb.1;omega),SE hb.2 k8.size⟩) k8 _ _ HU.out,HGd.out.1,Sb (Sb HG.out HGd.out.2 fun b hb e=>by omega) k8 fun b hb e=>by omega⟩
end Go.Proofs.YthpflelgbadkcaaGreatDoor
namespace Go.Proofs.YthpflelgbadkcaaGreatDoor
open Pl
theorem Ib {z:Int} {d:Nat} (hd:1≤d) {x y:Int} (h:GL z d=(x,y,0)):B2 x y=true:=by
 unfold GL at h;split at h
 ·rename_i hc
  simp only[SV,and_true]at h;obtain⟨rfl,rfl⟩:=h;have hg:0<z.natAbs.gcd d:=Nat.gcd_pos_of_pos_right _ hd;have h1:(z.tdiv ((z.natAbs.gcd d:Nat):Int)).natAbs=z.natAbs/z.natAbs.gcd d:=by rw[Int.natAbs_tdiv,Int.natAbs_natCast];rfl
  have h2:(z.natAbs/z.natAbs.gcd d).gcd (d/z.natAbs.gcd d)=1:=Nat.coprime_div_gcd_div_gcd hg;have h3:1≤d/z.natAbs.gcd d:=Nat.div_pos (Nat.le_of_dvd hd (Nat.gcd_dvd_right _ _)) hg;generalize z.tdiv ((z.natAbs.gcd d:Nat):Int)=a at*;rw[←h1]at h2 hc;generalize d/z.natAbs.gcd d=b at*;refine decide_eq_true ⟨by omega,by omega,by omega,by omega,?_⟩;rw[Int.toNat_natCast];exact h2
 simp only[SV]at h;omega
theorem MU {a b:Int} (ha:1≤a) (hb:1≤b):1≤(a*b).toNat:=by
 have:=Int.mul_pos (show 0<a by omega) (show 0<b by omega);omega
theorem GB {n1 d1 n2 d2 x y:Int} (h:Dy n1 d1 n2 d2=(x,y,0)):B2 x y=true:=by
 unfold Dy at h;split at h
 ·rename_i hv
  exact Ib (MU (BT hv.1).1 (BT hv.2).1) h
 simp only[SV]at h;omega
theorem IS {n1 d1 n2 d2 x y:Int} (h:EN n1 d1 n2 d2=(x,y,0)):B2 x y=true:=by
 unfold EN at h;split at h
 ·rename_i hv
  exact Ib (MU (BT hv.1).1 (BT hv.2).1) h
 simp only[SV]at h;omega
theorem Gh {f n1 d1 n2 d2 x y:Int} (h:CD f n1 d1 n2 d2=(x,y,0)):B2 x y=true:=by
 unfold CD at h;split at h
 ·exact IS h
 split at h
 ·unfold J7 at h;split at h
  ·exact IS h
  simp only[SV]at h;omega
 split at h
 ·exact GB h
 unfold Gq at h;split at h
 ·split at h
  ·simp only[SV]at h;omega
  split at h
  ·exact GB h
  exact GB h
 simp only[SV]at h;omega
mutual
def GF (p:Ex→Nat):Ex→Nat
 | .mk k f w o q n d nm ms bs ks=>p (.mk k f w o q n d nm ms bs ks)+Fe p ks
def Fe (p:Ex→Nat):List Ex→Nat
 |[]=>0
 |e::es=>GF p e+Fe p es
end
def Qw (p:Ex→Nat):Prop:=(∀e,e.kind≠1→p e=0)∧∀e ks,p (e.withKids ks)=p e
def Fl (e:Ex):Nat:=if e.kind=1 then 1 else 0
theorem JV:Qw Fl:=⟨fun e h=>SQ h,fun e ks=>by unfold Fl;rw[CC]⟩
theorem Eb (p:Ex→Nat) (e:Ex):GF p e=p e+Fe p e.kids:=by cases e;rw[GF];rfl
theorem LO {p:Ex→Nat}:∀{es:List Ex} {e:Ex},e∈es→GF p e≤Fe p es
 |a::ax,e,h=>by
  unfold Fe;rcases List.mem_cons.1 h with rfl|h
  ·omega
  have:=LO (p:=p) h;omega
theorem LN {p:Ex→Nat} {f:Ex→Ex}:∀(es:List Ex),(∀e∈es,GF p (f e)≤GF p e)→Fe p (es.map f)≤Fe p es
 |[],_=>SD _
 |e::es,h=>by
  rw[List.map_cons];unfold Fe;have h1:=h e List.mem_cons_self;have h2:=LN es fun k hk=>h k (List.mem_cons_of_mem _ hk)
  omega
theorem Jd {p:Ex→Nat} {f:Ex→Ex}:∀(es:List Ex),(∀e∈es,GF p (f e)=GF p e)→Fe p (es.map f)=Fe p es
 |[],_=>rfl
 |e::es,h=>by
  rw[List.map_cons];unfold Fe;have h1:=h e List.mem_cons_self;have h2:=Jd es fun k hk=>h k (List.mem_cons_of_mem _ hk)
  omega
theorem Hr {f:Ex→Ex}:∀(es:List Ex),(∀e∈es,BF (f e)≤BF e)→BI (es.map f)≤BI es
 |[],_=>SD _
 |e::es,h=>by
  rw[List.map_cons];unfold BI;have h1:=h e List.mem_cons_self;have h2:=Hr es fun k hk=>h k (List.mem_cons_of_mem _ hk)
  omega
theorem Mk (e:Ex):e.withKids e.kids=e:=by cases e;rfl
theorem IG {f:Ex→Ex}:∀{es:List Ex},(∀e∈es,f e=e)→es.map f=es
 |[],_=>rfl
 |e::es,h=>by rw[List.map_cons,h e List.mem_cons_self,IG fun k hk=>h k (List.mem_cons_of_mem _ hk)]
theorem Ed {e:Ex} {f:Int} (h2:Hu e) (ho:Gk e f=true):pt1 e f∈e.kids∧pt2 e f∈e.kids:=by
 obtain⟨h3, -⟩:=SL ho;obtain⟨a,b,hk⟩:=h2 h3;unfold pt1 pt2;rw[SR ho,SR ho,hk];exact⟨List.mem_cons_self,by simp⟩
def OB (f:Int) (a b t:Ex):Prop:=(t=a∨t=b)∨(t∈a.kids∨t∈b.kids)∨(∃x y,t=BG x y∧a.kind=0∧b.kind=0∧CD f a.num a.den b.num b.den=(x,y,0))∨(t=BB 2 a (BG 0 1)∧DB a=false)
theorem Gy {m:Nat} {f:Int} {a b t:Ex} (ha:Hu a) (hb:Hu b) (h:Bi m f a b=some t):OB f a b t:=by
 unfold Bi at h;split at h
 ·unfold EI at h;split at h
  ·rename_i hz
   split at h
   ·rename_i h0
    cases h;refine .inr (.inr (.inl ⟨_,_,rfl,hz.1,hz.2,?_⟩));rw[←h0]
   cases h
  cases h
 ·unfold Bq at h;dsimp only at h;generalize (if f=2∨f=3 then(1:Int)else 0)=n at h;by_cases h1:Gw b n=true
  ·rw[SR h1]at h;cases h;exact .inl (.inl rfl)
  rw[SQ h1]at h;split at h
  ·cases h;exact .inl (.inr rfl)
  cases h
 ·unfold BE at h;split at h
  ·rename_i hc;cases h;exact .inr (.inl (.inl (Ed ha hc.2.1).1))
  split at h
  ·rename_i hc;cases h;exact .inr (.inl (.inl (Ed ha hc.2.1).2))
  split at h
  ·rename_i hc;cases h;exact .inr (.inl (.inr (Ed hb hc.2.1).2))
  split at h
  ·rename_i hc;cases h;exact .inr (.inl (.inl (Ed ha hc.2.1).1))
  split at h
  ·rename_i hc;cases h;exact .inr (.inl (.inr (Ed hb hc.2.1).1))
  cases h
 ·unfold B5 at h;split at h
  ·rename_i hc;cases h;exact .inr (.inl (.inl (Ed ha hc.2.1).1))
  split at h
  ·rename_i hc;cases h;exact .inr (.inl (.inl (Ed ha hc.2.1).2))
  split at h
  ·rename_i hc;cases h;exact .inr (.inl (.inl (Ed ha hc.2.1).1))
  split at h
  ·rename_i hc;cases h;exact .inr (.inl (.inr (Ed hb hc.2.1).1))
  cases h
 ·unfold Ct at h;split at h
  ·rename_i hc;cases h;exact .inr (.inr (.inr ⟨rfl,hc.2.2⟩))
  cases h
 unfold CF at h;split at h
 ·cases h;exact .inl (.inl rfl)
 split at h
 ·cases h;exact .inl (.inr rfl)
 cases h
def Rs (e:Ex):Prop:=∀a b,e.kids=[a,b]→e.kind=3→DE e.fn a b=none
def NF (e:Ex):Prop:=BL Rs e
theorem PP (x y:Int):NF (BG x y):=BA.2 ⟨(fun a b h=>by cases h),(fun k hk=>nomatch hk)⟩
theorem Og {e:Ex} (h:DB e=false):e.kind≠0:=by
 intro h0;rw[I7,h0]at h;simp at h
theorem Na {a:Ex} (h:DB a=false):DE 2 a (BG 0 1)=none:=by
 have ha:=Og h;have hb:Gw (BG 0 1) 1=false:=rfl;have hi:∀n:Int,Gw a n=false:=fun n=>SM fun h=>ha h.1
 have ho:∀g:Int,Gk (BG 0 1) g=false:=fun g=>SM fun h=>by have:=h.1;revert this;show ¬((0:Int)=3);decide
 have hcp:∀c,Nx c (BG 0 1)=false:=by
  intro c;unfold Nx;cases hq:FV c (BG 0 1)with
  |false=>simp
  |true=>
   cases c with
   |mk k f w o q n d nm ms bs ks=>
    unfold BG at hq;unfold FV at hq;rw[Bool.and_eq_true]at hq;obtain⟨rfl, -, -, -, -,rfl,rfl, -⟩:=SL hq.1;have:Gw (Ex.mk 0 f w o q 0 1 nm ms bs ks) 0=true:=decide_eq_true ⟨rfl,rfl,rfl⟩;rw[this];simp
 refine Fz fun m hm=>?_
 rcases(by omega:m=0∨m=1∨m=2∨m=3∨m=4∨m=5)with rfl|rfl|rfl|rfl|rfl|rfl
 ·show EI 2 a (BG 0 1)=none;unfold EI;rw[SQ fun h=>ha h.1]
 ·show Bq 2 a (BG 0 1)=none;unfold Bq;simp[hb,hi]
 ·show BE 2 a (BG 0 1)=none;unfold BE;simp
 ·show B5 2 a (BG 0 1)=none;unfold B5;simp[ho,hcp]
 ·show Ct 2 a (BG 0 1)=none;unfold Ct;simp
 show CF 2 a (BG 0 1)=none;unfold CF;simp
theorem QE {m:Nat} {f:Int} {a b t:Ex} (h2a:Hu a) (h2b:Hu b) (ha:NF a) (hb:NF b) (h:Bi m f a b=some t):NF t:=by
 rcases Gy h2a h2b h with(rfl|rfl)|(h|h)|⟨x,y,rfl, -⟩|⟨rfl,hr⟩
 ·exact ha
 ·exact hb
 ·exact ha.kid h
 ·exact hb.kid h
 ·exact PP x y
 refine BA.2 ⟨fun p q hk _=>?_,fun k hk=>?_⟩
 ·have:[a,BG 0 1]=[p,q]:=hk;injection this with e1 e2;injection e2 with e2 _;subst e1 e2;exact Na hr
 rcases List.mem_cons.1 hk with rfl|hk
 ·exact ha
 obtain rfl:=SJ.1 hk;exact PP 0 1
theorem Ig:∀(n:Nat) (e:Ex),AL e≤n→NF e→Ah e=e
 |0,e,h,_=>absurd (Aw e) (by omega)
 |n+1,e,h,hnf=>by
  have h2:=B9 e;rw[F4,IG fun k hk=>Ig n k (by have:=Aa hk;omega) (hnf.kid hk),Mk];unfold Ia;split
  ·rename_i a b hk
   split
   ·rename_i h3
    rw[hnf.top a b hk h3];rfl
   rfl
  rfl
theorem FI {e:Ex} (h:Bj e=0):Hu e:=fun h3=>by
 obtain⟨hl, -⟩:=EA (Ci h) h3;rcases hks:e.kids with _|⟨a,_|⟨b,_|⟨c,l⟩⟩⟩
 ·rw[hks]at hl;simp at hl
 ·rw[hks]at hl;simp at hl
 ·exact⟨a,b,rfl⟩
 rw[hks]at hl;simp at hl
def Cm (e:Ex):Prop:=BL QT e
theorem Cm.kids2 {e:Ex} (h:Cm e) (h3:e.kind=3):∃a b,e.kids=[a,b]∧Cm a∧Cm b∧0≤e.fn∧e.fn≤3:=by
 obtain⟨a,b,hk⟩:=FI h.top.2 h3;exact⟨a,b,hk,h.kid (by rw[hk];simp),h.kid (by rw[hk];simp),(EA (Ci h.top.2) h3).2⟩
def Eu (t e:Ex):Prop:=AL t≤AL e∧BF t≤BF e∧∀p,Qw p→GF p t≤GF p e
theorem Eu.trans {a b c:Ex} (h:Eu a b) (k:Eu b c):Eu a c:=⟨SH h.1 k.1,SH h.2.1 k.2.1,fun p hp=>SH (h.2.2 p hp) (k.2.2 p hp)⟩
theorem GZ {e k:Ex} (h:k∈e.kids):Eu k e:=by
 have h1:=Aa h;have h2:=FJ h;have h4:=B9 e;have h5:=Dv e;refine⟨by omega,by omega,fun p hp=>?_⟩;have h3:=LO (p:=p) h;rw[Eb p e];omega
theorem MJ {p:Ex→Nat} (hp:Qw p) (x y:Int):GF p (BG x y)=0:=by rw[Eb,hp.1 _ (by show ¬((0:Int)=1);decide)];rfl
theorem Kd {e:Ex} (x y:Int):Eu (BG x y) e:=⟨Aw e,Gt e,fun p hp=>by rw[MJ hp];exact Nat.zero_le _⟩
theorem Ka {x y:Int} (h:B2 x y=true):Cm (BG x y):=(F8 h).2.2
theorem O1 {m:Nat} {f:Int} {a b e t:Ex} (hk:e.kids=[a,b]) (h2a:Hu a) (h2b:Hu b) (h:Bi m f a b=some t):Eu t e:=by
 have la:Eu a e:=GZ (by rw[hk];simp);have lb:Eu b e:=GZ (by rw[hk];simp);rcases Gy h2a h2b h with(rfl|rfl)|(h|h)|⟨x,y,rfl, -⟩|⟨rfl,hr⟩
 ·exact la
 ·exact lb
 ·exact(GZ h).trans la
 ·exact(GZ h).trans lb
 ·exact Kd x y
 have h4:=B9 e;have h5:=Dv e;have pb:=Aw b;have db:=Gt b;have da:=Gt a;rw[hk]at h4 h5;have e4:Af [a,b]=AL a+(AL b+0):=rfl;have e5:BI [a,b]=max (BF a) (max (BF b) 0):=rfl;refine⟨?_,?_,?_⟩
 ·show 1+(AL a+(1+0))≤AL e;omega
 ·show max (BF a) (max 1 0)+1≤BF e;omega
 intro p hp;have h6:=Eb p (BB 2 a (BG 0 1));rw[hp.1 _ (by show ¬((3:Int)=1);decide)]at h6;have h7:Fe p (BB 2 a (BG 0 1)).kids=GF p a+(GF p (BG 0 1)+0):=rfl;rw[MJ hp]at h7;have h8:=la.2.2 p hp;omega
theorem O5 {m:Nat} {f:Int} {a b t:Ex} (ha:Cm a) (hb:Cm b) (h:Bi m f a b=some t):Cm t:=by
 rcases Gy (FI ha.top.2) (FI hb.top.2) h with(rfl|rfl)|(h|h)|⟨x,y,rfl, -, -,hap⟩|⟨rfl,hr⟩
 ·exact ha
 ·exact hb
 ·exact ha.kid h
 ·exact hb.kid h
 ·exact Ka (Gh hap)
 exact(B7 (f:=2) (by decide) (N1:=AL a) (D1:=BF a) ⟨SD _,SD _,ha⟩ (F8 (n:=0) (d:=1) (by decide))).2.2
def Lz (e:Ex) (L:Nat):Bool:=
 (decide (e.kind=0∧e.fn=0∧L=0)&&B2 e.num e.den||decide (e.kind=1∧0≤e.fn∧e.fn≤7∧L=0∧e.num=0∧e.den=0)||decide (e.kind=2∧0≤e.fn∧e.fn≤4∧L=1∧e.num=0∧e.den=0)||decide (e.kind=3∧0≤e.fn∧e.fn≤3∧L=2∧e.num=0∧e.den=0))
 &&decide (e.kind≠1→e.window=0∧e.offset=0∧e.name.size=0∧e.ms.length=0)&&decide (e.kind≠1→e.kind≠2→e.k=0)&&decide (e.kind≠2→e.bys.length=0)
theorem Kx (e:Ex):BN e=Lz e e.kids.length:=rfl
theorem NH (e:Ex) (ks:List Ex) (L:Nat):Lz (e.withKids ks) L=Lz e L:=by cases e;rfl
section
variable (e:Ex) (ks:List Ex)
theorem QM (h:e.kids.length=ks.length):Bj (e.withKids ks)=Bj e:=by
 have hs:BN (e.withKids ks)=BN e:=by rw[Kx,Kx,Bl,←h,NH]
 have hn:Bo (e.withKids ks)=Bo e:=by cases e;rfl
 have hw:Ai (e.withKids ks)=Ai e:=by cases e;rfl
 unfold Bj;rw[hs,hn,hw,JF,Gm]
theorem RX (h:Be e):Be (e.withKids ks):=by cases e;exact h
theorem Qa {p:Ex→Nat} (hp:Qw p):GF p (e.withKids ks)=p e+Fe p ks:=by rw[Eb,hp.2,Bl]
theorem PT:AL (e.withKids ks)=1+Af ks:=by rw[B9,Bl]
theorem PO:BF (e.withKids ks)=BI ks+1:=by rw[Dv,Bl]
end
theorem MX {f:Ex→Ex} (e:Ex) (h:∀k∈e.kids,Eu (f k) k):Eu (e.withKids (e.kids.map f)) e:=by
 have h1:=E9 (f:=f) e.kids fun k hk=>(h k hk).1
 have h2:=Hr (f:=f) e.kids fun k hk=>(h k hk).2.1
 have h4:=B9 e;have h5:=Dv e;refine⟨by rw[PT];omega,by rw[PO];omega,fun p hp=>?_⟩;have h3:=LN (p:=p) (f:=f) e.kids fun k hk=>(h k hk).2.2 p hp
 rw[Qa e _ hp,Eb p e];omega
theorem Mc {f:Ex→Ex} {e:Ex} (he:Cm e) (h:∀k∈e.kids,Cm (f k)):Cm (e.withKids (e.kids.map f)):=by
 refine BA.2 ⟨⟨RX e _ he.top.1,(QM e _ (by simp)).trans he.top.2⟩,fun k hk=>?_⟩;rw[Bl]at hk;obtain⟨k',hk',rfl⟩:=List.mem_map.1 hk;exact h k' hk'
theorem FU:∀(n:Nat) (e:Ex),AL e≤n→Cm e→Cm (Ah e)∧Eu (Ah e) e∧NF (Ah e)
 |0,e,h,_=>absurd (Aw e) (by omega)
 |n+1,e,h,hg=>by
  have h2:=B9 e;have hin:∀k∈e.kids,Cm (Ah k)∧Eu (Ah k) k∧NF (Ah k):=fun k hk=>FU n k (by have:=Aa hk;omega) (hg.kid hk)
  have hw:Cm (e.withKids (e.kids.map Ah)):=Mc hg fun k hk=>(hin k hk).1
  have hl:Eu (e.withKids (e.kids.map Ah)) e:=MX e fun k hk=>(hin k hk).2.1
  rw[F4];by_cases h3:e.kind=3
  ·obtain⟨a,b,hk,hga,hgb, -⟩:=hg.kids2 h3;have hA:=hin a (by rw[hk];simp);have hB:=hin b (by rw[hk];simp);have hk2:(e.withKids (e.kids.map Ah)).kids=[Ah a,Ah b]:=by rw[Bl,hk];rfl
   rw[Gz hk2 (by rw[CC];exact h3),IC];cases hr:DE e.fn (Ah a) (Ah b)with
   |some t=>
    obtain⟨m,hm,ht⟩:=Jg hr;have t2a:=FI hA.1.top.2;have t2b:=FI hB.1.top.2;exact⟨O5 hA.1 hB.1 ht,(O1 hk2 t2a t2b ht).trans hl,QE t2a t2b hA.2.2 hB.2.2 ht⟩
   |none=>
    refine⟨hw,hl,BA.2 ⟨fun p q hpq _=>?_,fun k hkk=>?_⟩⟩
    ·change(e.withKids (e.kids.map Ah)).kids=[p,q]at hpq;rw[hk2]at hpq;injection hpq with e1 e2;injection e2 with e2 _;subst e1 e2;show DE (e.withKids (e.kids.map Ah)).fn _ _=none;rw[IC];exact hr
    change k∈(e.withKids (e.kids.map Ah)).kids at hkk;rw[Bl]at hkk;obtain⟨k',hk',rfl⟩:=List.mem_map.1 hkk;exact(hin k' hk').2.2
  rw[Hd (by rw[CC];exact h3)];refine⟨hw,hl,BA.2 ⟨fun p q _ h=>absurd (by rw[CC]at h;exact h) h3,fun k hkk=>?_⟩⟩;rw[Bl]at hkk;obtain⟨k',hk',rfl⟩:=List.mem_map.1 hkk;exact(hin k' hk').2.2
theorem MK {e:Ex} (h:Cm e):Ah (Ah e)=Ah e:=Ig _ _ (SD _) (FU _ e (SD _) h).2.2
def R2 (e:Ex):Prop:=∀a b,e.kids=[a,b]→e.kind=3→¬(a.kind=0∧b.kind=0∧(CD e.fn a.num a.den b.num b.den).2.2=0)
theorem LA {e:Ex} (h:R2 e):Dz e=e:=by
 unfold Dz;split
 ·rename_i a b hk
  rw[SQ fun hc=>h a b hk hc.1 hc.2]
 rfl
theorem IM:∀(n:Nat) (e:Ex),AL e≤n→BL R2 e→Aq e=e
 |0,e,h,_=>absurd (Aw e) (by omega)
 |n+1,e,h,hnf=>by
  have h2:=B9 e;rw[Cq,IG fun k hk=>IM n k (by have:=Aa hk;omega) (hnf.kid hk),Mk];exact LA hnf.top
theorem IR {e:Ex} (h:Bj e=0) (h0:e.kind=0):e.kids=[]:=by
 have hs:=Ci h;have:e.kids.length=0:=by
  simp[BN,h0]at hs;simpa using hs.1.1.1.1.2
 exact List.length_eq_zero_iff.1 this
theorem IV:∀(n:Nat) (e:Ex),AL e≤n→Cm e→Cm (Aq e)∧Eu (Aq e) e∧BL R2 (Aq e)∧∀p,Qw p→GF p (Aq e)=GF p e
 |0,e,h,_=>absurd (Aw e) (by omega)
 |n+1,e,h,hg=>by
  have h2:=B9 e;have hin:∀k∈e.kids,Cm (Aq k)∧Eu (Aq k) k∧BL R2 (Aq k)∧∀p,Qw p→GF p (Aq k)=GF p k:=fun k hk=>IV n k (by have:=Aa hk;omega) (hg.kid hk)
  have hw:Cm (e.withKids (e.kids.map Aq)):=Mc hg fun k hk=>(hin k hk).1
  have hl:Eu (e.withKids (e.kids.map Aq)) e:=MX e fun k hk=>(hin k hk).2.1
  have hsz:∀p,Qw p→GF p (e.withKids (e.kids.map Aq))=GF p e:=fun p hp=>by rw[Qa e _ hp,Jd e.kids fun k hk=>(hin k hk).2.2.2 p hp,←Eb]
  have hkd:∀k∈(e.withKids (e.kids.map Aq)).kids,BL R2 k:=fun k hkk=>by
   rw[Bl]at hkk;obtain⟨k',hk',rfl⟩:=List.mem_map.1 hkk;exact(hin k' hk').2.2.1
  rw[Cq];generalize e.withKids (e.kids.map Aq)=e2 at*;by_cases hF:R2 e2
  ·rw[LA hF];exact⟨hw,hl,BA.2 ⟨hF,hkd⟩,hsz⟩
  obtain⟨a,b,hk,h3,ha,hb,hap⟩:∃a b,e2.kids=[a,b]∧e2.kind=3∧a.kind=0∧b.kind=0∧(CD e2.fn a.num a.den b.num b.den).2.2=0:=by
   unfold R2 at hF;simp only[Classical.not_forall,Classical.not_not]at hF;obtain⟨a,b,h1,h2,h3⟩:=hF;exact⟨a,b,h1,h2,h3⟩
  obtain⟨⟨x,y,er⟩,hxy⟩:∃r,CD e2.fn a.num a.den b.num b.den=r:=⟨_,rfl⟩;rw[hxy]at hap;obtain rfl:er=0:=hap;rw[JH hk h3 ha hb hxy];refine⟨Ka (Gh hxy),(Kd x y).trans hl,BA.2 ⟨(fun p q hpq=>by cases hpq),(fun k hk=>nomatch hk)⟩,?_⟩;have ga:Cm a:=hw.kid (by rw[hk];simp);have gb:Cm b:=hw.kid (by rw[hk];simp);intro p hp;have za:GF p a=0:=by rw[Eb,hp.1 a (by rw[ha];decide),IR ga.top.2 ha];rfl
  have zb:GF p b=0:=by rw[Eb,hp.1 b (by rw[hb];decide),IR gb.top.2 hb];rfl
  rw[←hsz p hp,Eb p e2,hk,hp.1 e2 (by rw[h3];decide),MJ hp];show 0=0+(GF p a+(GF p b+0));rw[za,zb]
theorem MH {e:Ex} (h:Cm e):Aq (Aq e)=Aq e:=IM _ _ (SD _) (IV _ e (SD _) h).2.2.1
end Go.Proofs.YthpflelgbadkcaaGreatDoor
