/- What the card of the law stands on: Query, PlanPl, Idem, PlStk, Clone3, Shape, SizeW. -/
import Derived.Test.YthpflelgbadkcaaGreatDoorRewriteReadsP01
import Derived.Test.YthpflelgbadkcaaGreatDoorRewriteReadsP41
import Derived.Test.YthpflelgbadkcaaGreatDoorRewriteReadsP04
import Derived.Test.YthpflelgbadkcaaGreatDoorRewriteReadsP06
import Derived.Test.YthpflelgbadkcaaGreatDoorRewriteReadsP08
import Derived.Test.YthpflelgbadkcaaGreatDoorRewriteReadsP32
import Derived.Test.YthpflelgbadkcaaGreatDoorRewriteReadsP17
import Derived.Test.YthpflelgbadkcaaGreatDoorRewriteReadsP10
import Derived.Test.YthpflelgbadkcaaGreatDoorRewriteReadsP19
import Derived.Deep.DeepCutAuto
set_option maxRecDepth 100000
set_option maxHeartbeats 12800000
set_option linter.unusedVariables false
set_option linter.unusedSimpArgs false
namespace Go.Proofs.YthpflelgbadkcaaGreatDoor
open Go.RowKit Pl
def Od (N D:Nat) (w:World) (e:Ending) (w':World):Prop:=∃(t:Ex) (cs:List Value),e= .returned (.agg cs.toArray)∧Ax w' (CW 0 w.heap.size w'.heap.size) t cs∧Cf N D t∧A5 w w'
theorem NS (w:World) (v:Value) (l:List Int) (hr:Rd w w.heap.size v (l.map vi)) (hl:∀x∈l,Bc x) (hll:l.length≤1000000000000000):
  Calls Tryz.prog 7 #[v] w (Od 21 5 w):=by
 obtain⟨A,n,c,rfl,hn,hc⟩:=hr.form;have hbr:=Sc w 29 (AH 0 0).toArray;have hG:=(Sa w).alloc (.cells (AH 0 0).toArray 29);have hs:(w.alloc (.cells (AH 0 0).toArray 29)).heap.size=w.heap.size+1:=by simp
 have HR:=S9 (SC hr (SC hl hll));clear hr hl hll hn hc;go_enter Tryz.func7,Tryz.ntmps7;go_upto_region 1 with fail;change Code.wp _ _ _ _ (w.alloc (.cells (AH 0 0).toArray 29));generalize w.alloc (.cells (AH 0 0).toArray 29)=w1 at*;have HS:=S9 hs;clear hs;go_upto_region 2 with fail;have hbg:=Sc w1 63 #[.slice A n c,.int .i64 0];have hg2:=(Sa w1).alloc (.cells #[.slice A n c,.int .i64 0] 63);generalize w1.alloc (.cells #[.slice A n c,.int .i64 0] 63)=w2 at*;have HGS:=S9 (show GS w2 w1.heap.size w.heap.size (.slice A n c) l 0 from⟨hbg,HR.out.1.grew (SD _) (hG.trans hg2),by have:=HS.out;omega,HR.out.2⟩);have HZ:=S9 (show w1.heap.size=w.heap.size+1∧w1.heap.size<w2.heap.size from⟨HS.out,hbg.lt⟩);have hb2:=hbr.grew hg2;have HG:=S9 (hG.trans hg2);generalize w1.heap.size=z at*;have HEx:=S9 (show Calls Tryz.prog 27 #[.pointer (some ⟨z,0,none⟩),.int .i64 3] w2 (Cw z w.heap.size (.slice A n c) l w2.heap.size (nX 2) (dX 2) 0 (cX 2) w2)from ME 2 3 (by decide) (by decide) w2 z w.heap.size (.slice A n c) l 0 HGS.out (by decide));clear hbr hG hbg hg2;go_wp2_with(first|(go_at_call 27;(with_reducible refine HEx.out.mono ?_);rintro e4 w4 ⟨t,U,i',rfl,hU,hgd,hgs,hi',k4⟩;have hU1:=AY hU;have hUl:U.length=11:=(by obtain⟨a,b,c,h, -⟩:=hU.open_;rw[h];rfl);have HU:=S9 hU;have HUl:=S9 hUl;have HGd:=S9 (SC hgd k4);have hb4:=hb2.keep k4 (by have:=HZ.out;omega);clear hU hUl hgd hgs hi' k4)|((with_reducible refine AF 29 (.tmp 2) (.tmp 8) rfl ?_);refine Ar 29 (.tmp 2) (.tmp 8) (w.heap.size) U (AH 0 0) 29 (by rw[HUl.out];exact AD) HUl.out.symm hU1 rfl rfl rfl rfl hb4 ?_;intro w8 hb8 k8 d8));refine bodyPost_ret (AP rfl rfl (by rw[HUl.out];exact AD) Tryz.underlying29 rfl hb8) rfl ?_;have hz:=HZ.out;exact⟨t,U,rfl,Ax.keep (S:=fun b=>b=w.heap.size) (fun b hb=>⟨hb.2,by have:=hb.1;omega,.inr (by have:=hb.1;omega),SE hb.2 k8.size⟩) k8 _ _ HU.out,HGd.out.1,Sb (Sb HG.out HGd.out.2 fun b hb e=>by omega) k8 fun b hb e=>by omega⟩
mutual
def M1:Ex→List Ex
 | .mk k f w o q n d nm ms bs ks=>N0 ks++[.mk k f w o q n d nm ms bs ks]
def N0:List Ex→List Ex
 |[]=>[]
 |e::es=>M1 e++N0 es
end
theorem TN (e:Ex):M1 e=N0 e.kids++[e]:=by cases e;rw[M1];rfl
mutual
theorem Sy:∀e:Ex,(M1 e).length=AL e
 | .mk k f w o q n d nm ms bs ks=>by
  rw[M1,AL,SX,TV ks];simp;omega
theorem TV:∀es:List Ex,(N0 es).length=Af es
 |[]=>by unfold N0 Af;rfl
 |e::es=>by
  unfold N0 Af;rw[SX,Sy e,TV es]
end
theorem Tj {es:List Ex} {j:Nat} {e:Ex} (h:es[j]? =some e):N0 (es.take (j+1))=N0 (es.take j)++M1 e:=by
 induction es generalizing j with
 |nil=>simp at h
 |cons a tl ih=>
  cases j with
  |zero=>
   obtain rfl:a=e:=by simpa using h
   simp[N0]
  |succ j=>
   rw[List.take_succ_cons,List.take_succ_cons];unfold N0;rw[ih (by simpa using h),List.append_assoc]
theorem TZ {es:List Ex} {j:Nat} {e:Ex} (h:es[j]? =some e):N0 es=N0 (es.take j)++M1 e++N0 (es.drop (j+1)):=by
 induction es generalizing j with
 |nil=>simp at h
 |cons a tl ih=>
  cases j with
  |zero=>
   obtain rfl:a=e:=by simpa using h
   simp[N0]
  |succ j=>
   rw[List.take_succ_cons,List.drop_succ_cons];show M1 a++N0 tl=M1 a++N0 (tl.take j)++M1 e++N0 (tl.drop (j+1));rw[ih (by simpa using h)];simp[List.append_assoc]
def P4 (e:Ex) (vm vb:Value):List Value:=[.int .i64 e.kind,.int .i64 e.fn,.int .i64 e.window,.int .i64 e.offset,.int .i64 e.k,.int .i64 e.num,.int .i64 e.den,.string e.name,vm,vb]
def Ux (w:World) (Q:Nat→Prop) (e:Ex) (cs:List Value):Prop:=∃vm vb,cs=P4 e vm vb∧C0 w Q 3 vm (e.ms.map Au)∧C0 w Q 1 vb (e.bys.map fun s=>[Value.string s])
def Su (w:World) (Q:Nat→Prop) (v:Value) (es:List Ex):Prop:=
 ∃A c,v= .slice A es.length c∧es.length≤c∧(0<es.length→∃b o,A=some ⟨b,o,none⟩∧Q b∧∀j e,es[j]? =some e→∃cs,w.rangeAt b (o+j*10) cs∧Ux w Q e cs)
section
variable {w w':World} {Q Q':Nat→Prop}
theorem Ux.keep {S:Nat→Prop} {e:Ex} {cs:List Value} (h:Ux w Q e cs) (hq:∀b,Q b→b<w.heap.size∧¬S b∧Q' b) (hk:AC S w w'):Ux w' Q' e cs:=by
 obtain⟨vm,vb,h1,h2,h3⟩:=h;exact⟨vm,vb,h1,h2.keep hq hk,h3.keep hq hk⟩
theorem Su.keep {v:Value} {es:List Ex} {S:Nat→Prop} (h:Su w Q v es) (hq:∀b,Q b→b<w.heap.size∧¬S b∧Q' b) (hk:AC S w w'):Su w' Q' v es:=by
 obtain⟨A,c,hv,hc,hx⟩:=h;refine⟨A,c,hv,hc,fun hn=>?_⟩;obtain⟨b,o,e,hb,hks⟩:=hx hn;refine⟨b,o,e,(hq _ hb).2.2,fun j e' hj=>?_⟩;obtain⟨cs,h1,h2⟩:=hks j e' hj;exact⟨cs,Ao h1 (hq _ hb).1 hk (hq _ hb).2.1,h2.keep hq hk⟩
theorem Su.slice {v:Value} {es:List Ex} (h:Su w Q v es):∃A n c,v= .slice A n c∧n=es.length∧n≤c:=by
 obtain⟨A,c,rfl,hc,_⟩:=h;exact⟨A,_,c,rfl,rfl,hc⟩
theorem Su.at_ {A:Option Addr} {n c j:Nat} {es:List Ex} {e:Ex} (h:Su w Q (.slice A n c) es) (hj:es[j]? =some e):∃b o cs,A=some ⟨b,o,none⟩∧Q b∧w.rangeAt b (o+j*10) cs∧Ux w Q e cs:=by
 obtain⟨A',c',hv,_,hx⟩:=h;injection hv with hA;subst hA;have hl:j<es.length:=(SK.1 hj).1;obtain⟨b,o,rfl,hb,hks⟩:=hx (by omega);obtain⟨cs,h1,h2⟩:=hks j e hj;exact⟨b,o,cs,rfl,hb,h1,h2⟩
end
def TH (w:World) (Q:Nat→Prop) (es:List Ex) (rows:List (List Value)):Prop:=rows.length=es.length∧∀(j:Nat) (e:Ex) (cs:List Value),es[j]? =some e→rows[j]? =some cs→Ux w Q e cs
section
variable {w w':World} {Q Q':Nat→Prop} {es:List Ex} {rows:List (List Value)}
theorem TH.nil (w:World) (Q:Nat→Prop):TH w Q [] []:=⟨rfl,fun j e cs h=>by simp at h⟩
theorem TH.keep {S:Nat→Prop} (h:TH w Q es rows) (hq:∀b,Q b→b<w.heap.size∧¬S b∧Q' b) (hk:AC S w w'):TH w' Q' es rows:=⟨h.1,fun j e cs h1 h2=>(h.2 j e cs h1 h2).keep hq hk⟩
theorem TH.snoc {e:Ex} {cs:List Value} (h:TH w Q es rows) (he:Ux w Q e cs):TH w Q (es++[e]) (rows++[cs]):=by
 refine⟨by rw[SX,SX,h.1];rfl,fun j e' cs' h1 h2=>?_⟩;by_cases hj:j<es.length
 ·rw[List.getElem?_append_left hj]at h1;rw[List.getElem?_append_left (by rw[h.1];exact hj)]at h2;exact h.2 j e' cs' h1 h2
 rw[List.getElem?_append_right (by omega)]at h1;rw[List.getElem?_append_right (by rw[h.1];omega),h.1]at h2;cases hz:j-es.length with
 |zero=>
  rw[hz]at h1 h2;obtain rfl:e=e':=by simpa using h1
  obtain rfl:cs=cs':=by simpa using h2
  exact he
 |succ z=>rw[hz]at h1;simp at h1
theorem BJ.plan {base:Nat} {t:TypeId} {v:Value} (h:BJ w base t 10 v rows) (hI:TH w Q es rows) (hq:∀b,v.ownBlock=some b→Q b):Su w Q v es:=by
 obtain⟨A,c,rfl,hc,hx⟩:=h.own;refine⟨A,c,by rw[hI.1],by have:=hI.1;omega,fun hn=>?_⟩;obtain⟨b,o,e,hb,hcell⟩:=hx (by have:=hI.1;omega);refine⟨b,o,e,hq b hb,fun j e' hj=>?_⟩;have hjl:j<rows.length:=by rw[hI.1];exact(SK.1 hj).1
 exact⟨rows[j],hcell j _ (SF hjl),hI.2 j e' _ hj (SF hjl)⟩
end
theorem T0:(Tryz.prog.info? 79).map (·.size)=some 10:=by kernel_rfl
def TK:Value:= .agg #[.int .i64 0,.int .i64 0,.int .i64 0,.int .i64 0,.int .i64 0,.int .i64 0,.int .i64 0,.string ⟨#[]⟩,.slice none 0 0,.slice none 0 0]
def Uy:List Value:=[.int .i64 0,.int .i64 0,.int .i64 0,.int .i64 0,.int .i64 0,.int .i64 0,.int .i64 0,.string ⟨#[]⟩,.slice none 0 0,.slice none 0 0]
theorem Us:P7 Tryz.prog 41 79 10 120 TK:=⟨Tryz.underlying41,by kernel_rfl,rfl,by decide,by decide⟩
end Go.Proofs.YthpflelgbadkcaaGreatDoor
namespace Go.Proofs.YthpflelgbadkcaaGreatDoor
open Pl
theorem Ib {z:Int} {d:Nat} (hd:1≤d) {x y:Int} (h:GL z d=(x,y,0)):B2 x y=true:=by
 unfold GL at h;split at h
 ·rename_i hc
  simp only[SV,and_true]at h;obtain⟨rfl,rfl⟩:=h;have hg:0<z.natAbs.gcd d:=Nat.gcd_pos_of_pos_right _ hd;have h1:(z.tdiv ((z.natAbs.gcd d:Nat):Int)).natAbs=z.natAbs/z.natAbs.gcd d:=by rw[Int.natAbs_tdiv,Int.natAbs_natCast];rfl
  have h2:(z.natAbs/z.natAbs.gcd d).gcd (d/z.natAbs.gcd d)=1:=Nat.coprime_div_gcd_div_gcd hg;have h3:1≤d/z.natAbs.gcd d:=Nat.div_pos (Nat.le_of_dvd hd (Nat.gcd_dvd_right _ _)) hg;generalize z.tdiv ((z.natAbs.gcd d:Nat):Int)=a at*;rw[←h1]at h2 hc;generalize d/z.natAbs.gcd d=b at*;refine decide_eq_true ⟨by omega,by omega,by omega,by omega,?_⟩;rw[Int.toNat_natCast];exact h2
 simp only[SV]at h;omega
theorem MU {a b:Int} (ha:1≤a) (hb:1≤b):1≤(a*b).toNat:=by
 have:=Int.mul_pos (show 0<a by omega) (show 0<b by omega);omega
theorem GB {n1 d1 n2 d2 x y:Int} (h:Dy n1 d1 n2 d2=(x,y,0)):B2 x y=true:=by
 unfold Dy at h;split at h
 ·rename_i hv
  exact Ib (MU (BT hv.1).1 (BT hv.2).1) h
 simp only[SV]at h;omega
theorem IS {n1 d1 n2 d2 x y:Int} (h:EN n1 d1 n2 d2=(x,y,0)):B2 x y=true:=by
 unfold EN at h;split at h
 ·rename_i hv
  exact Ib (MU (BT hv.1).1 (BT hv.2).1) h
 simp only[SV]at h;omega
theorem Gh {f n1 d1 n2 d2 x y:Int} (h:CD f n1 d1 n2 d2=(x,y,0)):B2 x y=true:=by
 unfold CD at h;split at h
 ·exact IS h
 split at h
 ·unfold J7 at h;split at h
  ·exact IS h
  simp only[SV]at h;omega
 split at h
 ·exact GB h
 unfold Gq at h;split at h
 ·split at h
  ·simp only[SV]at h;omega
  split at h
  ·exact GB h
  exact GB h
 simp only[SV]at h;omega
mutual
def GF (p:Ex→Nat):Ex→Nat
 | .mk k f w o q n d nm ms bs ks=>p (.mk k f w o q n d nm ms bs ks)+Fe p ks
def Fe (p:Ex→Nat):List Ex→Nat
 |[]=>0
 |e::es=>GF p e+Fe p es
end
def Qw (p:Ex→Nat):Prop:=(∀e,e.kind≠1→p e=0)∧∀e ks,p (e.withKids ks)=p e
theorem Eb (p:Ex→Nat) (e:Ex):GF p e=p e+Fe p e.kids:=by cases e;rw[GF];rfl
theorem LO {p:Ex→Nat}:∀{es:List Ex} {e:Ex},e∈es→GF p e≤Fe p es
 |a::ax,e,h=>by
  unfold Fe;rcases List.mem_cons.1 h with rfl|h
  ·omega
  have:=LO (p:=p) h;omega
theorem LN {p:Ex→Nat} {f:Ex→Ex}:∀(es:List Ex),(∀e∈es,GF p (f e)≤GF p e)→Fe p (es.map f)≤Fe p es
 |[],_=>SD _
 |e::es,h=>by
  rw[List.map_cons];unfold Fe;have h1:=h e List.mem_cons_self;have h2:=LN es fun k hk=>h k (List.mem_cons_of_mem _ hk)
  omega
theorem Hr {f:Ex→Ex}:∀(es:List Ex),(∀e∈es,BF (f e)≤BF e)→BI (es.map f)≤BI es
 |[],_=>SD _
 |e::es,h=>by
  rw[List.map_cons];unfold BI;have h1:=h e List.mem_cons_self;have h2:=Hr es fun k hk=>h k (List.mem_cons_of_mem _ hk)
  omega
theorem Ed {e:Ex} {f:Int} (h2:Hu e) (ho:Gk e f=true):pt1 e f∈e.kids∧pt2 e f∈e.kids:=by
 obtain⟨h3, -⟩:=SL ho;obtain⟨a,b,hk⟩:=h2 h3;unfold pt1 pt2;rw[SR ho,SR ho,hk];exact⟨List.mem_cons_self,by simp⟩
def OB (f:Int) (a b t:Ex):Prop:=(t=a∨t=b)∨(t∈a.kids∨t∈b.kids)∨(∃x y,t=BG x y∧a.kind=0∧b.kind=0∧CD f a.num a.den b.num b.den=(x,y,0))∨(t=BB 2 a (BG 0 1)∧DB a=false)
theorem Gy {m:Nat} {f:Int} {a b t:Ex} (ha:Hu a) (hb:Hu b) (h:Bi m f a b=some t):OB f a b t:=by
 unfold Bi at h;split at h
 ·unfold EI at h;split at h
  ·rename_i hz
   split at h
   ·rename_i h0
    cases h;refine .inr (.inr (.inl ⟨_,_,rfl,hz.1,hz.2,?_⟩));rw[←h0]
   cases h
  cases h
 ·unfold Bq at h;dsimp only at h;generalize (if f=2∨f=3 then(1:Int)else 0)=n at h;by_cases h1:Gw b n=true
  ·rw[SR h1]at h;cases h;exact .inl (.inl rfl)
  rw[SQ h1]at h;split at h
  ·cases h;exact .inl (.inr rfl)
  cases h
 ·unfold BE at h;split at h
  ·rename_i hc;cases h;exact .inr (.inl (.inl (Ed ha hc.2.1).1))
  split at h
  ·rename_i hc;cases h;exact .inr (.inl (.inl (Ed ha hc.2.1).2))
  split at h
  ·rename_i hc;cases h;exact .inr (.inl (.inr (Ed hb hc.2.1).2))
  split at h
  ·rename_i hc;cases h;exact .inr (.inl (.inl (Ed ha hc.2.1).1))
  split at h
  ·rename_i hc;cases h;exact .inr (.inl (.inr (Ed hb hc.2.1).1))
  cases h
 ·unfold B5 at h;split at h
  ·rename_i hc;cases h;exact .inr (.inl (.inl (Ed ha hc.2.1).1))
  split at h
  ·rename_i hc;cases h;exact .inr (.inl (.inl (Ed ha hc.2.1).2))
  split at h
  ·rename_i hc;cases h;exact .inr (.inl (.inl (Ed ha hc.2.1).1))
  split at h
  ·rename_i hc;cases h;exact .inr (.inl (.inr (Ed hb hc.2.1).1))
  cases h
 ·unfold Ct at h;split at h
  ·rename_i hc;cases h;exact .inr (.inr (.inr ⟨rfl,hc.2.2⟩))
  cases h
 unfold CF at h;split at h
 ·cases h;exact .inl (.inl rfl)
 split at h
 ·cases h;exact .inl (.inr rfl)
 cases h
def Rs (e:Ex):Prop:=∀a b,e.kids=[a,b]→e.kind=3→DE e.fn a b=none
def NF (e:Ex):Prop:=BL Rs e
theorem PP (x y:Int):NF (BG x y):=BA.2 ⟨(fun a b h=>by cases h),(fun k hk=>nomatch hk)⟩
theorem Og {e:Ex} (h:DB e=false):e.kind≠0:=by
 intro h0;rw[I7,h0]at h;simp at h
theorem Na {a:Ex} (h:DB a=false):DE 2 a (BG 0 1)=none:=by
 have ha:=Og h;have hb:Gw (BG 0 1) 1=false:=rfl;have hi:∀n:Int,Gw a n=false:=fun n=>SM fun h=>ha h.1
 have ho:∀g:Int,Gk (BG 0 1) g=false:=fun g=>SM fun h=>by have:=h.1;revert this;show ¬((0:Int)=3);decide
 have hcp:∀c,Nx c (BG 0 1)=false:=by
  intro c;unfold Nx;cases hq:FV c (BG 0 1)with
  |false=>simp
  |true=>
   cases c with
   |mk k f w o q n d nm ms bs ks=>
    unfold BG at hq;unfold FV at hq;rw[Bool.and_eq_true]at hq;obtain⟨rfl, -, -, -, -,rfl,rfl, -⟩:=SL hq.1;have:Gw (Ex.mk 0 f w o q 0 1 nm ms bs ks) 0=true:=decide_eq_true ⟨rfl,rfl,rfl⟩;rw[this];simp
 refine Fz fun m hm=>?_
 rcases(by omega:m=0∨m=1∨m=2∨m=3∨m=4∨m=5)with rfl|rfl|rfl|rfl|rfl|rfl
 ·show EI 2 a (BG 0 1)=none;unfold EI;rw[SQ fun h=>ha h.1]
 ·show Bq 2 a (BG 0 1)=none;unfold Bq;simp[hb,hi]
 ·show BE 2 a (BG 0 1)=none;unfold BE;simp
 ·show B5 2 a (BG 0 1)=none;unfold B5;simp[ho,hcp]
 ·show Ct 2 a (BG 0 1)=none;unfold Ct;simp
 show CF 2 a (BG 0 1)=none;unfold CF;simp
theorem QE {m:Nat} {f:Int} {a b t:Ex} (h2a:Hu a) (h2b:Hu b) (ha:NF a) (hb:NF b) (h:Bi m f a b=some t):NF t:=by
 rcases Gy h2a h2b h with(rfl|rfl)|(h|h)|⟨x,y,rfl, -⟩|⟨rfl,hr⟩
 ·exact ha
 ·exact hb
 ·exact ha.kid h
 ·exact hb.kid h
 ·exact PP x y
 refine BA.2 ⟨fun p q hk _=>?_,fun k hk=>?_⟩
 ·have:[a,BG 0 1]=[p,q]:=hk;injection this with e1 e2;injection e2 with e2 _;subst e1 e2;exact Na hr
 rcases List.mem_cons.1 hk with rfl|hk
 ·exact ha
 obtain rfl:=SJ.1 hk;exact PP 0 1
theorem FI {e:Ex} (h:Bj e=0):Hu e:=fun h3=>by
 obtain⟨hl, -⟩:=EA (Ci h) h3;rcases hks:e.kids with _|⟨a,_|⟨b,_|⟨c,l⟩⟩⟩
 ·rw[hks]at hl;simp at hl
 ·rw[hks]at hl;simp at hl
 ·exact⟨a,b,rfl⟩
 rw[hks]at hl;simp at hl
def Cm (e:Ex):Prop:=BL QT e
theorem Cm.kids2 {e:Ex} (h:Cm e) (h3:e.kind=3):∃a b,e.kids=[a,b]∧Cm a∧Cm b∧0≤e.fn∧e.fn≤3:=by
 obtain⟨a,b,hk⟩:=FI h.top.2 h3;exact⟨a,b,hk,h.kid (by rw[hk];simp),h.kid (by rw[hk];simp),(EA (Ci h.top.2) h3).2⟩
def Eu (t e:Ex):Prop:=AL t≤AL e∧BF t≤BF e∧∀p,Qw p→GF p t≤GF p e
theorem Eu.trans {a b c:Ex} (h:Eu a b) (k:Eu b c):Eu a c:=⟨SH h.1 k.1,SH h.2.1 k.2.1,fun p hp=>SH (h.2.2 p hp) (k.2.2 p hp)⟩
theorem GZ {e k:Ex} (h:k∈e.kids):Eu k e:=by
 have h1:=Aa h;have h2:=FJ h;have h4:=B9 e;have h5:=Dv e;refine⟨by omega,by omega,fun p hp=>?_⟩;have h3:=LO (p:=p) h;rw[Eb p e];omega
theorem MJ {p:Ex→Nat} (hp:Qw p) (x y:Int):GF p (BG x y)=0:=by rw[Eb,hp.1 _ (by show ¬((0:Int)=1);decide)];rfl
theorem Kd {e:Ex} (x y:Int):Eu (BG x y) e:=⟨Aw e,Gt e,fun p hp=>by rw[MJ hp];exact Nat.zero_le _⟩
theorem Ka {x y:Int} (h:B2 x y=true):Cm (BG x y):=(F8 h).2.2
theorem O1 {m:Nat} {f:Int} {a b e t:Ex} (hk:e.kids=[a,b]) (h2a:Hu a) (h2b:Hu b) (h:Bi m f a b=some t):Eu t e:=by
 have la:Eu a e:=GZ (by rw[hk];simp);have lb:Eu b e:=GZ (by rw[hk];simp);rcases Gy h2a h2b h with(rfl|rfl)|(h|h)|⟨x,y,rfl, -⟩|⟨rfl,hr⟩
 ·exact la
 ·exact lb
 ·exact(GZ h).trans la
 ·exact(GZ h).trans lb
 ·exact Kd x y
 have h4:=B9 e;have h5:=Dv e;have pb:=Aw b;have db:=Gt b;have da:=Gt a;rw[hk]at h4 h5;have e4:Af [a,b]=AL a+(AL b+0):=rfl;have e5:BI [a,b]=max (BF a) (max (BF b) 0):=rfl;refine⟨?_,?_,?_⟩
 ·show 1+(AL a+(1+0))≤AL e;omega
 ·show max (BF a) (max 1 0)+1≤BF e;omega
 intro p hp;have h6:=Eb p (BB 2 a (BG 0 1));rw[hp.1 _ (by show ¬((3:Int)=1);decide)]at h6;have h7:Fe p (BB 2 a (BG 0 1)).kids=GF p a+(GF p (BG 0 1)+0):=rfl;rw[MJ hp]at h7;have h8:=la.2.2 p hp;omega
theorem O5 {m:Nat} {f:Int} {a b t:Ex} (ha:Cm a) (hb:Cm b) (h:Bi m f a b=some t):Cm t:=by
 rcases Gy (FI ha.top.2) (FI hb.top.2) h with(rfl|rfl)|(h|h)|⟨x,y,rfl, -, -,hap⟩|⟨rfl,hr⟩
 ·exact ha
 ·exact hb
 ·exact ha.kid h
 ·exact hb.kid h
 ·exact Ka (Gh hap)
 exact(B7 (f:=2) (by decide) (N1:=AL a) (D1:=BF a) ⟨SD _,SD _,ha⟩ (F8 (n:=0) (d:=1) (by decide))).2.2
def Lz (e:Ex) (L:Nat):Bool:=
 (decide (e.kind=0∧e.fn=0∧L=0)&&B2 e.num e.den||decide (e.kind=1∧0≤e.fn∧e.fn≤7∧L=0∧e.num=0∧e.den=0)||decide (e.kind=2∧0≤e.fn∧e.fn≤4∧L=1∧e.num=0∧e.den=0)||decide (e.kind=3∧0≤e.fn∧e.fn≤3∧L=2∧e.num=0∧e.den=0))
 &&decide (e.kind≠1→e.window=0∧e.offset=0∧e.name.size=0∧e.ms.length=0)&&decide (e.kind≠1→e.kind≠2→e.k=0)&&decide (e.kind≠2→e.bys.length=0)
theorem Kx (e:Ex):BN e=Lz e e.kids.length:=rfl
theorem NH (e:Ex) (ks:List Ex) (L:Nat):Lz (e.withKids ks) L=Lz e L:=by cases e;rfl
section
variable (e:Ex) (ks:List Ex)
theorem QM (h:e.kids.length=ks.length):Bj (e.withKids ks)=Bj e:=by
 have hs:BN (e.withKids ks)=BN e:=by rw[Kx,Kx,Bl,←h,NH]
 have hn:Bo (e.withKids ks)=Bo e:=by cases e;rfl
 have hw:Ai (e.withKids ks)=Ai e:=by cases e;rfl
 unfold Bj;rw[hs,hn,hw,JF,Gm]
theorem RX (h:Be e):Be (e.withKids ks):=by cases e;exact h
theorem Qa {p:Ex→Nat} (hp:Qw p):GF p (e.withKids ks)=p e+Fe p ks:=by rw[Eb,hp.2,Bl]
theorem PT:AL (e.withKids ks)=1+Af ks:=by rw[B9,Bl]
theorem PO:BF (e.withKids ks)=BI ks+1:=by rw[Dv,Bl]
end
theorem MX {f:Ex→Ex} (e:Ex) (h:∀k∈e.kids,Eu (f k) k):Eu (e.withKids (e.kids.map f)) e:=by
 have h1:=E9 (f:=f) e.kids fun k hk=>(h k hk).1
 have h2:=Hr (f:=f) e.kids fun k hk=>(h k hk).2.1
 have h4:=B9 e;have h5:=Dv e;refine⟨by rw[PT];omega,by rw[PO];omega,fun p hp=>?_⟩;have h3:=LN (p:=p) (f:=f) e.kids fun k hk=>(h k hk).2.2 p hp
 rw[Qa e _ hp,Eb p e];omega
theorem Mc {f:Ex→Ex} {e:Ex} (he:Cm e) (h:∀k∈e.kids,Cm (f k)):Cm (e.withKids (e.kids.map f)):=by
 refine BA.2 ⟨⟨RX e _ he.top.1,(QM e _ (by simp)).trans he.top.2⟩,fun k hk=>?_⟩;rw[Bl]at hk;obtain⟨k',hk',rfl⟩:=List.mem_map.1 hk;exact h k' hk'
theorem FU:∀(n:Nat) (e:Ex),AL e≤n→Cm e→Cm (Ah e)∧Eu (Ah e) e∧NF (Ah e)
 |0,e,h,_=>absurd (Aw e) (by omega)
 |n+1,e,h,hg=>by
  have h2:=B9 e;have hin:∀k∈e.kids,Cm (Ah k)∧Eu (Ah k) k∧NF (Ah k):=fun k hk=>FU n k (by have:=Aa hk;omega) (hg.kid hk)
  have hw:Cm (e.withKids (e.kids.map Ah)):=Mc hg fun k hk=>(hin k hk).1
  have hl:Eu (e.withKids (e.kids.map Ah)) e:=MX e fun k hk=>(hin k hk).2.1
  rw[F4];by_cases h3:e.kind=3
  ·obtain⟨a,b,hk,hga,hgb, -⟩:=hg.kids2 h3;have hA:=hin a (by rw[hk];simp);have hB:=hin b (by rw[hk];simp);have hk2:(e.withKids (e.kids.map Ah)).kids=[Ah a,Ah b]:=by rw[Bl,hk];rfl
   rw[Gz hk2 (by rw[CC];exact h3),IC];cases hr:DE e.fn (Ah a) (Ah b)with
   |some t=>
    obtain⟨m,hm,ht⟩:=Jg hr;have t2a:=FI hA.1.top.2;have t2b:=FI hB.1.top.2;exact⟨O5 hA.1 hB.1 ht,(O1 hk2 t2a t2b ht).trans hl,QE t2a t2b hA.2.2 hB.2.2 ht⟩
   |none=>
    refine⟨hw,hl,BA.2 ⟨fun p q hpq _=>?_,fun k hkk=>?_⟩⟩
    ·change(e.withKids (e.kids.map Ah)).kids=[p,q]at hpq;rw[hk2]at hpq;injection hpq with e1 e2;injection e2 with e2 _;subst e1 e2;show DE (e.withKids (e.kids.map Ah)).fn _ _=none;rw[IC];exact hr
    change k∈(e.withKids (e.kids.map Ah)).kids at hkk;rw[Bl]at hkk;obtain⟨k',hk',rfl⟩:=List.mem_map.1 hkk;exact(hin k' hk').2.2
  rw[Hd (by rw[CC];exact h3)];refine⟨hw,hl,BA.2 ⟨fun p q _ h=>absurd (by rw[CC]at h;exact h) h3,fun k hkk=>?_⟩⟩;rw[Bl]at hkk;obtain⟨k',hk',rfl⟩:=List.mem_map.1 hkk;exact(hin k' hk').2.2
end Go.Proofs.YthpflelgbadkcaaGreatDoor
namespace Go.Proofs.YthpflelgbadkcaaGreatDoor
open Go.RowKit Pl
def Ty (k:Int):Int:=if k=0 then 0 else if k=1 then 0 else if k=2 then 1 else if k=3 then 2 else -1
theorem UK {e:Ex} (h:Bj e=0):Ty e.kind=(e.kids.length:Nat):=by
 have h1:=Ci h;unfold BN at h1;simp only[Bool.and_eq_true,Bool.or_eq_true,decide_eq_true_eq]at h1;unfold Ty;rcases h1.1.1.1 with((⟨⟨h2, -,h3⟩, -⟩|⟨h2, -, -,h3, -⟩)|⟨h2, -, -,h3, -⟩)|⟨h2, -, -,h3, -⟩<;>rw[h2,h3]<;>rfl
def Tm:List Ex→List Ex→List Ex
 |S,[]=>S
 |S,x::xs=>Tm (S.take (S.length-x.kids.length)++[x]) xs
theorem Sr:∀(a b S:List Ex),Tm S (a++b)=Tm (Tm S a) b
 |[],b,S=>rfl
 |x::xs,b,S=>Sr xs b _
theorem U0 (T:List Ex) (x:Ex):Tm (T++x.kids) [x]=T++[x]:=by
 show(T++x.kids).take ((T++x.kids).length-x.kids.length)++[x]=T++[x];rw[SX,Nat.add_sub_cancel,List.take_left]
mutual
theorem T5:∀(e:Ex) (S:List Ex),Tm S (M1 e)=S++[e]
 | .mk k f w o q n d nm ms bs ks,S=>by
  rw[M1,Sr,TC ks S];exact U0 S (.mk k f w o q n d nm ms bs ks)
theorem TC:∀(es:List Ex) (S:List Ex),Tm S (N0 es)=S++es
 |[],S=>by unfold N0;rw[List.append_nil];rfl
 |a::tl,S=>by
  unfold N0;rw[Sr,T5 a S,TC tl (S++[a]),List.append_assoc];rfl
end
mutual
theorem Tx:∀(e:Ex) (S pre us:List Ex) (x:Ex),pre++x::us=M1 e→∃T,Tm S pre=T++x.kids
 | .mk k f w o q n d nm ms bs ks,S,pre,us,x,h=>by
  rw[M1]at h;rcases List.eq_nil_or_concat us with rfl|⟨us',l,rfl⟩
  ·obtain⟨h1,h2⟩:=List.append_inj' h rfl;injection h2 with h2;subst h1 h2;exact⟨S,TC ks S⟩
  rw[List.concat_eq_append,←List.cons_append,←List.append_assoc]at h;exact TM ks S pre us' x (List.append_inj' h rfl).1
theorem TM:∀(es:List Ex) (S pre us:List Ex) (x:Ex),pre++x::us=N0 es→∃T,Tm S pre=T++x.kids
 |[],S,pre,us,x,h=>by unfold N0 at h;simp at h
 |a::tl,S,pre,us,x,h=>by
  unfold N0 at h;rcases List.append_eq_append_iff.1 h with⟨c,h1,h2⟩|⟨c,h1,h2⟩
  ·rcases c with _|⟨y,ys⟩
   ·rw[List.append_nil]at h1;have:=TM tl (S++[a]) [] us x h2;rw[←h1,T5 a S];exact this
   rw[List.cons_append]at h2;injection h2 with h2 h3;subst h2;exact Tx a S pre ys x h1.symm
  rw[h1,Sr,T5 a S];exact TM tl (S++[a]) c us x h2.symm
end
theorem Ub:∀(a S:List Ex),(Tm S a).length≤S.length+a.length
 |[],S=>SD _
 |x::xs,S=>by
  have:=Ub xs (S.take (S.length-x.kids.length)++[x]);show(Tm (S.take (S.length-x.kids.length)++[x]) xs).length≤_;simp only[SX,List.length_take,List.length_cons,List.length_nil]at this ⊢;omega
theorem T8 {P:Ex→Prop}:∀(n:Nat) (e:Ex),AL e≤n→BL P e→∀x∈M1 e,P x
 |0,e,h,_=>absurd (Aw e) (by omega)
 |n+1,e,h,hok=>by
  have h2:=B9 e;intro x hx;rw[TN]at hx;rcases List.mem_append.1 hx with hx|hx
  ·have:∀es:List Ex,(∀k∈es,k∈e.kids)→x∈N0 es→∃k∈es,x∈M1 k:=by
    intro es
    induction es with
    |nil=>intro _ h;unfold N0 at h;cases h
    |cons a tl ih=>
     intro hsub h;unfold N0 at h;rcases List.mem_append.1 h with h|h
     ·exact⟨a,List.mem_cons_self,h⟩
     obtain⟨k,hk,hxk⟩:=ih (fun k hk=>hsub k (List.mem_cons_of_mem _ hk)) h;exact⟨k,List.mem_cons_of_mem _ hk,hxk⟩
   obtain⟨k,hk,hxk⟩:=this e.kids (fun _ h=>h) hx;exact T8 n k (by have:=Aa hk;omega) (hok.kid hk) x hxk
  obtain rfl:=SJ.1 hx;exact hok.top
theorem BJ.take {w:World} {base sz:Nat} {e:TypeId} {A:Option Addr} {n c:Nat} {rows:List (List Value)} (h:BJ w base e sz (.slice A n c) rows) {k:Nat} (hk:k≤rows.length):BJ w base e sz (.slice A k c) (rows.take k):=by
 have hev:KQ sz (rows.take k):=fun r hr=>h.2 r (List.mem_of_mem_take hr)
 rcases h.form with⟨hv,rfl⟩|⟨g,cap,cur,hv,hb,hbox,h1,h2,h3,h4⟩
 ·injection hv with e1 e2 e3;subst e1 e2 e3;obtain rfl:k=0:=by simpa using hk
  exact BJ.nil _ _ _ _
 injection hv with e1 e2 e3;subst e1 e2 e3;refine⟨⟨?_,.inr ⟨g,c,cur,by rw[List.length_take,Nat.min_eq_left hk],hb,hbox,by rw[List.length_take];omega,h2,h3,?_⟩⟩,hev⟩
 ·rw[DT hev]
 rw[List.length_take,Nat.min_eq_left hk];have h5:(rows.take k).flatten=(rows.flatten).take (k*sz):=by
  have h6:rows.flatten=(rows.take k).flatten++(rows.drop k).flatten:=by rw[←List.flatten_append,List.take_append_drop]
  rw[h6,List.take_left' (by rw[DT hev,List.length_take,Nat.min_eq_left hk])]
 rw[h5,←h4,List.take_take,Nat.min_eq_left (Nat.mul_le_mul_right _ hk)]
theorem C0.drop {w:World} {Q:Nat→Prop} {sz n c:Nat} {b o:Nat} {rows:List (List Value)} (h:C0 w Q sz (.slice (some ⟨b,o,none⟩) n c) rows) {k:Nat} (hk:k≤rows.length):C0 w Q sz (.slice (some ⟨b,o+k*sz,none⟩) (n-k) (c-k)) (rows.drop k):=by
 obtain⟨A,c',hv,hc,hx⟩:=h;injection hv with e1 e2 e3;subst e1 e2 e3;refine⟨_,_,by rw[List.length_drop],by rw[List.length_drop];omega,fun hn=>?_⟩;rw[List.length_drop]at hn;obtain⟨b',o',e,hq,hcell⟩:=hx (by omega);injection e with e;injection e with e1 e2;subst e1 e2;refine⟨_,_,rfl,hq,fun j cs hj=>?_⟩;rw[List.getElem?_drop]at hj;have:=hcell (k+j) cs hj;rwa[show o+k*sz+j*sz=o+(k+j)*sz by rw[Nat.add_mul];omega]
theorem Ts (v:Value) (rows:List (List Value)) (w:World) (h:Ch w w.heap.size 11 v rows) (hev:KQ 11 rows) (h1:∀r∈rows,∀u∈r,u.oneCell'=true) (hn:rows.length≤1000000):Calls Tryz.prog 105 #[v] w (JR w 11 rows):=by
 obtain⟨A,c,rfl,hc,hx⟩:=h;obtain⟨n,hnn⟩:∃n,rows.length=n:=⟨_,rfl⟩;have hrd:∀w',A5 w w'→Ch w' w'.heap.size 11 (.slice A rows.length c) rows:=fun w' g=>Ch.keep (B:=w.heap.size) ⟨A,c,rfl,hc,hx⟩ (SD _) g.size g (fun _ _ h=>h)
 rw[hnn]at hc hx hrd;have HN:=S9 hnn;have HX:=S9 hx;have HRD:=S9 hrd;have HEV:=S9 (SC hev h1);clear hx hev h1 hrd;rw[hnn];clear hnn;go_enter Tryz.func105,Tryz.ntmps105;have heq:=fun w=>run_eql_slice_nil (P:=Tryz.prog) w 27 29 A n c Tryz.underlying27
 rcases A with _|ad
 ·have HR0:=S9 (show rows=[]from by
   rcases hr:rows with _|⟨r,rs⟩
   ·rfl
   obtain⟨b,o,h, -⟩:=HX.out (by have:=HN.out;rw[hr]at this;simp at this;omega);cases h)
  go_wp2_with fail;go_ret;refine⟨_,rfl,?_,Sa _⟩;rw[HR0.out];exact C0.nil _ _ _
 go_wp2_with(at_builtin;refine JM R6 rfl (.tmp 5) (.tmp 6) rfl rfl (BJ.made (base:=w.heap.size) (c:=0) #[] rfl (by decide) (SD _)) rfl (HRD.out _ ((Sa w).alloc _)) HEV.out.1 HEV.out.2 (by have:=HN.out;simp;omega) (by simp) ?_;intro v' w3 hM k3;have HM:=S9 hM;have HK:=S9 k3;clear hM k3);go_ret;refine⟨_,rfl,(HM.out.own).keep (S:=fun _=>False) (fun b hb=>⟨(HM.out.lt b hb).2,fun h=>h,(HM.out.lt b hb).1,(HM.out.lt b hb).2⟩) (Sa _),Sb ((Sa w).alloc _) HK.out fun i hi e=>by
  have h:some w.heap.size=some i:=e;injection h with h;omega⟩
inductive Sh where
 |mk (kind:Int) (kids:List Sh)
namespace Sh
def kind:Sh→Int| .mk k _=>k
def kids:Sh→List Sh| .mk _ ks=>ks
end Sh
mutual
def Hv:Ex→Sh
 | .mk k _ _ _ _ _ _ _ _ _ ks=> .mk k (E0 ks)
def E0:List Ex→List Sh
 |[]=>[]
 |e::es=>Hv e::E0 es
end
theorem FR:∀es:List Ex,(E0 es).length=es.length
 |[]=>by unfold E0;rfl
 |e::es=>by unfold E0;rw[List.length_cons,List.length_cons,FR es]
def Nl (w:World) (x:Addr) (cs:List Value):Prop:=∀j u,cs[j]? =some u→w.cell? (x.add j)=some u
theorem D8 (x:Addr) (n:Nat):(x.add n).block=x.block:=by unfold Addr.add;split<;>rfl
theorem MT {w:World} {b o:Nat} {cs:List Value} (h:w.rangeAt b o cs):Nl w ⟨b,o,none⟩ cs:=fun j u hu=>by rw[Addr.add_mid];exact h j u hu
def BD (k:Int) (c1 c2 c3 c4 c5 c6 c7 c8 c9 vk:Value):List Value:=[.int .i64 k,c1,c2,c3,c4,c5,c6,c7,c8,c9,vk]
mutual
def C5 (w:World) (Q:Nat→Prop):Sh→List Value→Prop
 | .mk k ks,cs=>∃c1 c2 c3 c4 c5 c6 c7 c8 c9 vk,cs=BD k c1 c2 c3 c4 c5 c6 c7 c8 c9 vk∧(∀v∈[c1,c2,c3,c4,c5,c6,c7,c8,c9],v.oneCell'=true)∧
   ∃A c,vk= .slice A ks.length c∧ks.length≤c∧(0<ks.length→∃x,A=some x∧Q x.block∧CB w Q x 0 ks)
def CB (w:World) (Q:Nat→Prop) (x:Addr) (i:Nat):List Sh→Prop
 |[]=>True
 |e::es=>(∃cs,Nl w (x.add (i*11)) cs∧C5 w Q e cs)∧CB w Q x (i+1) es
end
def D6 (w:World) (Q:Nat→Prop) (v:Value) (es:List Sh):Prop:=
 ∃A c,v= .slice A es.length c∧es.length≤c∧(0<es.length→∃x,A=some x∧Q x.block∧CB w Q x 0 es)
section
variable {w w':World} {Q Q':Nat→Prop}
theorem C5.open_ {e:Sh} {cs:List Value} (h:C5 w Q e cs):∃c1 c2 c3 c4 c5 c6 c7 c8 c9 vk,cs=BD e.kind c1 c2 c3 c4 c5 c6 c7 c8 c9 vk∧(∀v∈[c1,c2,c3,c4,c5,c6,c7,c8,c9],v.oneCell'=true)∧D6 w Q vk e.kids:=by
 cases e;unfold C5 at h;exact h
theorem C5.mk_ {e:Sh} {c1 c2 c3 c4 c5 c6 c7 c8 c9 vk:Value} (h1:∀v∈[c1,c2,c3,c4,c5,c6,c7,c8,c9],v.oneCell'=true) (h2:D6 w Q vk e.kids):C5 w Q e (BD e.kind c1 c2 c3 c4 c5 c6 c7 c8 c9 vk):=by
 cases e;unfold C5;exact⟨_,_,_,_,_,_,_,_,_,_,rfl,h1,h2⟩
theorem Nl.keep {S:Nat→Prop} {x:Addr} {cs:List Value} (h:Nl w x cs) (hb:x.block<w.heap.size) (hk:AC S w w') (hs:¬S x.block):Nl w' x cs:=fun j u hu=>
 (World.cell?_of_block (a:=x.add j) (by rw[D8];exact hk.block _ hb hs)).trans (h j u hu)
mutual
theorem C5.keep {S:Nat→Prop} (hq:∀b,Q b→b<w.heap.size∧¬S b∧Q' b) (hk:AC S w w'):∀(e:Sh) (cs:List Value),C5 w Q e cs→C5 w' Q' e cs
 | .mk k ks,cs,h=>by
  unfold C5 at h ⊢;obtain⟨c1,c2,c3,c4,c5,c6,c7,c8,c9,vk,h1,h2,A,c,h4,h5,h6⟩:=h;refine⟨c1,c2,c3,c4,c5,c6,c7,c8,c9,vk,h1,h2,A,c,h4,h5,fun hn=>?_⟩;obtain⟨x,e1,hb,hks⟩:=h6 hn;exact⟨x,e1,(hq _ hb).2.2,CB.keep hq hk x hb ks 0 hks⟩
theorem CB.keep {S:Nat→Prop} (hq:∀b,Q b→b<w.heap.size∧¬S b∧Q' b) (hk:AC S w w') (x:Addr) (hb:Q x.block):∀(es:List Sh) (i:Nat),CB w Q x i es→CB w' Q' x i es
 |[],_,_=>by unfold CB;trivial
 |e::es,i,h=>by
  unfold CB at h ⊢;obtain⟨⟨cs,h1,h2⟩,h3⟩:=h;exact⟨⟨cs,h1.keep (by rw[D8];exact(hq _ hb).1) hk (by rw[D8];exact(hq _ hb).2.1),C5.keep hq hk e cs h2⟩,CB.keep hq hk x hb es (i+1) h3⟩
end
theorem D6.keep {v:Value} {es:List Sh} {S:Nat→Prop} (h:D6 w Q v es) (hq:∀b,Q b→b<w.heap.size∧¬S b∧Q' b) (hk:AC S w w'):D6 w' Q' v es:=by
 obtain⟨A,c,hv,hc,hx⟩:=h;refine⟨A,c,hv,hc,fun hn=>?_⟩;obtain⟨x,e,hb,hks⟩:=hx hn;exact⟨x,e,(hq _ hb).2.2,CB.keep hq hk x hb es 0 hks⟩
theorem D6.nil (w:World) (Q:Nat→Prop):D6 w Q (.slice none 0 0) []:=⟨none,0,rfl,SD _,fun h=>absurd h (by simp)⟩
theorem D6.slice {v:Value} {es:List Sh} (h:D6 w Q v es):∃A n c,v= .slice A n c∧n=es.length∧n≤c:=by
 obtain⟨A,c,rfl,hc,_⟩:=h;exact⟨A,_,c,rfl,rfl,hc⟩
theorem CB.at_ {x:Addr}:∀{es:List Sh} {i j:Nat} {e:Sh},CB w Q x i es→es[j]? =some e→∃cs,Nl w (x.add ((i+j)*11)) cs∧C5 w Q e cs
 |e::es,i,0,e',h,hj=>by
  unfold CB at h;obtain rfl:e=e':=by simpa using hj
  exact h.1
 |e::es,i,j+1,e',h,hj=>by
  unfold CB at h;have:=CB.at_ (j:=j) h.2 (by simpa using hj);rwa[show i+1+j=i+(j+1) by omega]at this
theorem D6.at_ {A:Option Addr} {n c j:Nat} {es:List Sh} {e:Sh} (h:D6 w Q (.slice A n c) es) (hj:es[j]? =some e):∃x cs,A=some x∧Q x.block∧Nl w (x.add (j*11)) cs∧C5 w Q e cs:=by
 obtain⟨A',c',hv,_,hx⟩:=h;injection hv with hA;subst hA;have hl:j<es.length:=(SK.1 hj).1;obtain⟨x,rfl,hb,hks⟩:=hx (by omega);obtain⟨cs,h1,h2⟩:=hks.at_ hj;rw[Nat.zero_add]at h1;exact⟨x,cs,rfl,hb,h1,h2⟩
theorem CB.of {x:Addr}:∀{es:List Sh} {i:Nat},(∀(j:Nat) (e:Sh),es[j]? =some e→∃cs,Nl w (x.add ((i+j)*11)) cs∧C5 w Q e cs)→CB w Q x i es
 |[],_,_=>by unfold CB;trivial
 |e::es,i,h=>by
  unfold CB;refine⟨h 0 e rfl,CB.of fun j e' hj=>?_⟩;have:=h (j+1) e' (by simpa using hj);rwa[show i+(j+1)=i+1+j by omega]at this
mutual
theorem AW.sh:∀(e:Ex) (cs:List Value),AW w Q e cs→C5 w Q (Hv e) cs
 | .mk kind fn window offset k num den name ms bys kids,cs,h=>by
  unfold AW at h;unfold Hv C5;obtain⟨vm,vb,vk,h1,h2,h3,A,c,h4,h5,h6⟩:=h;obtain⟨A1,n1,c1,rfl, -⟩:=h2.slice;obtain⟨A2,n2,c2,rfl, -⟩:=h3.slice;refine⟨_,_,_,_,_,_,_,_,_,vk,h1,fun v hv=>?_,A,c,by rw[FR];exact h4,by rw[FR];exact h5,fun hn=>?_⟩
  ·simp only[List.mem_cons,List.not_mem_nil,or_false]at hv;rcases hv with rfl|rfl|rfl|rfl|rfl|rfl|rfl|rfl|rfl<;>rfl
  rw[FR]at hn;obtain⟨b,o,e1,hb,hks⟩:=h6 hn;exact⟨⟨b,o,none⟩,e1,hb,BY.sh b o kids 0 (by rw[Nat.zero_mul,Nat.add_zero];exact hks)⟩
theorem BY.sh (b o:Nat):∀(es:List Ex) (i:Nat),BY w Q b (o+i*11) es→CB w Q ⟨b,o,none⟩ i (E0 es)
 |[],_,_=>by unfold E0 CB;trivial
 |e::es,i,h=>by
  unfold BY at h;unfold E0 CB;obtain⟨⟨cs,h1,h2⟩,h3⟩:=h;refine⟨⟨cs,?_,AW.sh e cs h2⟩,BY.sh b o es (i+1) ?_⟩
  ·rw[Addr.add_mid];exact MT h1
  rwa[show o+(i+1)*11=o+i*11+11 by omega]
end
end
theorem Fo {P:Program} (w:World) (x:Addr) (ty:TypeId) (cs:List Value) (d:TypeDesc) (hc:Nl w x cs)
  (hu:P.underlying ty=some d) (hd:d.isRow=true) (hi:(P.info? ty).map (·.size)=some cs.length):
  (loadVar ty x).run P w= .ok (.agg cs.toArray) w:=by
 have hl:(loadCells x cs.length).run P w= .ok cs.toArray w:=
  run_loadCells_list (P:=P) w x cs (fun j v hv=>hc j v hv)
 cases hq:P.info? ty with
 |none=>simp[hq]at hi
 |some i=>
  have hs:i.size=cs.length:=by simpa[hq]using hi
  have hagg:(isAgg ty).run P w= .ok true w:=by
   unfold isAgg;rw[Sem.run_bind,run_underlying hu w];cases d<;>simp_all
  simp[loadVar,Sem.run_bind,hagg,sizeOf,typeInfo,hq,hs,hl]
def cutS:Nat→Sh→Sh
 |0,e=> .mk e.kind []
 |d+1,e=> .mk e.kind ((e.kids.take 3).map (cutS d))
end Go.Proofs.YthpflelgbadkcaaGreatDoor
