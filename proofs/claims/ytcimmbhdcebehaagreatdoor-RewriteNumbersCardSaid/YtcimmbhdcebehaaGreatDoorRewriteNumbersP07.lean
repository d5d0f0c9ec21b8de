/- What the card of the law stands on: TreeQ, TreeS, Late, LateC. -/
import Derived.Test.YtcimmbhdcebehaaGreatDoorRewriteNumbersP01
import Derived.Test.YtcimmbhdcebehaaGreatDoorRewriteNumbersP04
import Derived.Test.YtcimmbhdcebehaaGreatDoorRewriteNumbersP02
import Derived.Test.YtcimmbhdcebehaaGreatDoorRewriteNumbersP03
import Derived.OrdersHeld
import Derived.StillTail
import Derived.Deep.MidRow
set_option maxRecDepth 100000
set_option maxHeartbeats 12800000
set_option linter.unusedVariables false
set_option linter.unusedSimpArgs false
namespace Go.Proofs.YtcimmbhdcebehaaGreatDoor
open Go.RowKit
def RdRQ (w:World) (Q:Nat→Prop) (sz:Nat) (v:Value) (rows:List (List Value)):Prop:=
 ∃A c,v= .slice A rows.length c∧rows.length≤c∧(0<rows.length→∃b o,A=some ⟨b,o,none⟩∧Q b∧∀j cs,rows[j]? =some cs→w.rangeAt b (o+j*sz) cs)
mutual
def RdEQ (w:World) (Q:Nat→Prop):Ex→List Value→Prop
 | .mk kind fn window offset k num den name ms bys kids,cs=>∃vm vb vk,cs=cells11 (.mk kind fn window offset k num den name ms bys kids) vm vb vk∧RdRQ w Q 3 vm (ms.map mcells)∧RdRQ w Q 1 vb (bys.map fun s=>[Value.string s])∧
   ∃A c,vk= .slice A kids.length c∧kids.length≤c∧(0<kids.length→∃b o,A=some ⟨b,o,none⟩∧Q b∧RdKsQ w Q b o kids)
def RdKsQ (w:World) (Q:Nat→Prop) (b o:Nat):List Ex→Prop
 |[]=>True
 |e::es=>(∃cs,w.rangeAt b o cs∧RdEQ w Q e cs)∧RdKsQ w Q b (o+11) es
end
def RdTQ (w:World) (Q:Nat→Prop) (v:Value) (es:List Ex):Prop:=
 ∃A c,v= .slice A es.length c∧es.length≤c∧(0<es.length→∃b o,A=some ⟨b,o,none⟩∧Q b∧RdKsQ w Q b o es)
section
variable {w w':World} {Q Q':Nat→Prop} {B:Nat}
theorem RdRQ.keep {sz:Nat} {v:Value} {rows:List (List Value)} {S:Nat→Prop} (h:RdRQ w Q sz v rows) (hq:∀b,Q b→b<w.heap.size∧¬S b∧Q' b) (hk:Keeps S w w'):RdRQ w' Q' sz v rows:=by
 obtain⟨A,c,hv,hc,hx⟩:=h;refine⟨A,c,hv,hc,fun hn=>?_⟩;obtain⟨b,o,e,hb,hcell⟩:=hx hn;exact⟨b,o,e,(hq b hb).2.2,fun j cs hj=>rangeAt_keep (hcell j cs hj) (hq b hb).1 hk (hq b hb).2.1⟩
mutual
theorem RdEQ.keep {S:Nat→Prop} (hq:∀b,Q b→b<w.heap.size∧¬S b∧Q' b) (hk:Keeps S w w'):∀(e:Ex) (cs:List Value),RdEQ w Q e cs→RdEQ w' Q' e cs
 | .mk kind fn window offset k num den name ms bys kids,cs,h=>by
  unfold RdEQ at h ⊢;obtain⟨vm,vb,vk,h1,h2,h3,A,c,h4,h5,h6⟩:=h;refine⟨vm,vb,vk,h1,h2.keep hq hk,h3.keep hq hk,A,c,h4,h5,fun hn=>?_⟩;obtain⟨b,o,e1,hb,hks⟩:=h6 hn;exact⟨b,o,e1,(hq b hb).2.2,RdKsQ.keep hq hk b hb kids o hks⟩
theorem RdKsQ.keep {S:Nat→Prop} (hq:∀b,Q b→b<w.heap.size∧¬S b∧Q' b) (hk:Keeps S w w') (b:Nat) (hb:Q b):∀(es:List Ex) (o:Nat),RdKsQ w Q b o es→RdKsQ w' Q' b o es
 |[],_,_=>by unfold RdKsQ;trivial
 |e::es,o,h=>by
  unfold RdKsQ at h ⊢;obtain⟨⟨cs,h1,h2⟩,h3⟩:=h;exact⟨⟨cs,rangeAt_keep h1 (hq b hb).1 hk (hq b hb).2.1,RdEQ.keep hq hk e cs h2⟩,RdKsQ.keep hq hk b hb es (o+11) h3⟩
end
theorem RdTQ.keep {v:Value} {es:List Ex} {S:Nat→Prop} (h:RdTQ w Q v es) (hq:∀b,Q b→b<w.heap.size∧¬S b∧Q' b) (hk:Keeps S w w'):RdTQ w' Q' v es:=by
 obtain⟨A,c,hv,hc,hx⟩:=h;refine⟨A,c,hv,hc,fun hn=>?_⟩;obtain⟨b,o,e,hb,hks⟩:=hx hn;exact⟨b,o,e,(hq b hb).2.2,RdKsQ.keep hq hk b hb es o hks⟩
theorem RdRQ.toB {sz:Nat} {v:Value} {rows:List (List Value)} (h:RdRQ w Q sz v rows) (hq:∀b,Q b→b<B):RdR w B sz v rows:=by
 obtain⟨A,c,hv,hc,hx⟩:=h;refine⟨A,c,hv,hc,fun hn=>?_⟩;obtain⟨b,o,e,hb,hcell⟩:=hx hn;exact⟨b,o,e,hq b hb,hcell⟩
theorem RdR.toQ {sz:Nat} {v:Value} {rows:List (List Value)} (h:RdR w B sz v rows) (hq:∀b,b<B→Q b):RdRQ w Q sz v rows:=by
 obtain⟨A,c,hv,hc,hx⟩:=h;refine⟨A,c,hv,hc,fun hn=>?_⟩;obtain⟨b,o,e,hb,hcell⟩:=hx hn;exact⟨b,o,e,hq b hb,hcell⟩
mutual
theorem RdEQ.toB (hq:∀b,Q b→b<B):∀(e:Ex) (cs:List Value),RdEQ w Q e cs→RdE w B e cs
 | .mk kind fn window offset k num den name ms bys kids,cs,h=>by
  unfold RdEQ at h;unfold RdE;obtain⟨vm,vb,vk,h1,h2,h3,A,c,h4,h5,h6⟩:=h;refine⟨vm,vb,vk,h1,h2.toB hq,h3.toB hq,A,c,h4,h5,fun hn=>?_⟩;obtain⟨b,o,e1,hb,hks⟩:=h6 hn;exact⟨b,o,e1,hq b hb,RdKsQ.toB hq b kids o hks⟩
theorem RdKsQ.toB (hq:∀b,Q b→b<B) (b:Nat):∀(es:List Ex) (o:Nat),RdKsQ w Q b o es→RdKs w B b o es
 |[],_,_=>by unfold RdKs;trivial
 |e::es,o,h=>by
  unfold RdKsQ at h;unfold RdKs;obtain⟨⟨cs,h1,h2⟩,h3⟩:=h;exact⟨⟨cs,h1,RdEQ.toB hq e cs h2⟩,RdKsQ.toB hq b es (o+11) h3⟩
end
mutual
theorem RdE.toQ (hq:∀b,b<B→Q b):∀(e:Ex) (cs:List Value),RdE w B e cs→RdEQ w Q e cs
 | .mk kind fn window offset k num den name ms bys kids,cs,h=>by
  unfold RdE at h;unfold RdEQ;obtain⟨vm,vb,vk,h1,h2,h3,A,c,h4,h5,h6⟩:=h;refine⟨vm,vb,vk,h1,h2.toQ hq,h3.toQ hq,A,c,h4,h5,fun hn=>?_⟩;obtain⟨b,o,e1,hb,hks⟩:=h6 hn;exact⟨b,o,e1,hq b hb,RdKs.toQ hq b kids o hks⟩
theorem RdKs.toQ (hq:∀b,b<B→Q b) (b:Nat):∀(es:List Ex) (o:Nat),RdKs w B b o es→RdKsQ w Q b o es
 |[],_,_=>by unfold RdKsQ;trivial
 |e::es,o,h=>by
  unfold RdKs at h;unfold RdKsQ;obtain⟨⟨cs,h1,h2⟩,h3⟩:=h;exact⟨⟨cs,h1,RdE.toQ hq e cs h2⟩,RdKs.toQ hq b es (o+11) h3⟩
end
theorem RdTQ.toB {v:Value} {es:List Ex} (h:RdTQ w Q v es) (hq:∀b,Q b→b<B):RdT w B v es:=by
 obtain⟨A,c,hv,hc,hx⟩:=h;refine⟨A,c,hv,hc,fun hn=>?_⟩;obtain⟨b,o,e,hb,hks⟩:=hx hn;exact⟨b,o,e,hq b hb,RdKsQ.toB hq b es o hks⟩
theorem RdEQ.open_ {e:Ex} {cs:List Value} (h:RdEQ w Q e cs):∃vm vb vk,cs=cells11 e vm vb vk∧RdRQ w Q 3 vm (e.ms.map mcells)∧RdRQ w Q 1 vb (e.bys.map fun s=>[Value.string s])∧RdTQ w Q vk e.kids:=by
 cases e;unfold RdEQ at h;exact h
theorem RdEQ.mk_ {e:Ex} {vm vb vk:Value} (h1:RdRQ w Q 3 vm (e.ms.map mcells)) (h2:RdRQ w Q 1 vb (e.bys.map fun s=>[Value.string s])) (h3:RdTQ w Q vk e.kids):RdEQ w Q e (cells11 e vm vb vk):=by
 cases e;unfold RdEQ;exact⟨vm,vb,vk,rfl,h1,h2,h3⟩
theorem RdTQ.nil (w:World) (Q:Nat→Prop):RdTQ w Q (.slice none 0 0) []:=⟨none,0,rfl,Nat.le_refl _,fun h=>absurd h (by simp)⟩
theorem RdRQ.nil (w:World) (Q:Nat→Prop) (sz:Nat):RdRQ w Q sz (.slice none 0 0) []:=⟨none,0,rfl,Nat.le_refl _,fun h=>absurd h (by simp)⟩
theorem RdRQ.slice {sz:Nat} {v:Value} {rows:List (List Value)} (h:RdRQ w Q sz v rows):∃A n c,v= .slice A n c∧n=rows.length∧n≤c:=by
 obtain⟨A,c,rfl,hc,_⟩:=h;exact⟨A,_,c,rfl,rfl,hc⟩
theorem RdTQ.slice {v:Value} {es:List Ex} (h:RdTQ w Q v es):∃A n c,v= .slice A n c∧n=es.length∧n≤c:=by
 obtain⟨A,c,rfl,hc,_⟩:=h;exact⟨A,_,c,rfl,rfl,hc⟩
theorem RdKsQ.at_ {b:Nat}:∀{es:List Ex} {o j:Nat} {e:Ex},RdKsQ w Q b o es→es[j]? =some e→∃cs,w.rangeAt b (o+j*11) cs∧RdEQ w Q e cs
 |e::es,o,0,e',h,hj=>by
  unfold RdKsQ at h;obtain rfl:e=e':=by simpa using hj
  simpa using h.1
 |e::es,o,j+1,e',h,hj=>by
  unfold RdKsQ at h;have:=RdKsQ.at_ (j:=j) h.2 (by simpa using hj);rwa[show o+11+j*11=o+(j+1)*11 by omega]at this
theorem RdTQ.at_ {A:Option Addr} {n c j:Nat} {es:List Ex} {e:Ex} (h:RdTQ w Q (.slice A n c) es) (hj:es[j]? =some e):∃b o cs,A=some ⟨b,o,none⟩∧Q b∧w.rangeAt b (o+j*11) cs∧RdEQ w Q e cs:=by
 obtain⟨A',c',hv,_,hx⟩:=h;injection hv with hA;subst hA;have hl:j<es.length:=(List.getElem?_eq_some_iff.1 hj).1;obtain⟨b,o,rfl,hb,hks⟩:=hx (by omega);obtain⟨cs,h1,h2⟩:=hks.at_ hj;exact⟨b,o,cs,rfl,hb,h1,h2⟩
theorem RdKsQ.of {b:Nat}:∀{es:List Ex} {o:Nat},(∀(j:Nat) (e:Ex),es[j]? =some e→∃cs,w.rangeAt b (o+j*11) cs∧RdEQ w Q e cs)→RdKsQ w Q b o es
 |[],_,_=>by unfold RdKsQ;trivial
 |e::es,o,h=>by
  unfold RdKsQ;refine⟨by simpa using h 0 e rfl,RdKsQ.of fun j e' hj=>?_⟩;have:=h (j+1) e' (by simpa using hj);rwa[show o+(j+1)*11=o+11+j*11 by omega]at this
theorem MineR.own {base:Nat} {t:TypeId} {sz:Nat} {v:Value} {rows:List (List Value)} (h:MineR w base t sz v rows):RdRQ w (fun b=>v.ownBlock=some b) sz v rows:=by
 have he:=h.2;rcases h.form with⟨rfl,rfl⟩|⟨g,cap,cur,rfl,hb,hbox,h1,h2,h3,h4⟩
 ·exact⟨none,0,rfl,Nat.le_refl _,fun h=>absurd h (by simp)⟩
 refine⟨_,cap,rfl,h1,fun _=>⟨g,0,rfl,rfl,fun j cs hj k u hk=>?_⟩⟩;have hf:=flatten_at he hj hk;have hlt:j*sz+k<rows.length*sz:=by rw[←flatten_len he];exact(List.getElem?_eq_some_iff.1 hf).1
 rw[Nat.zero_add,hbox.cell,←Array.getElem?_toList,←hf,←h4,List.getElem?_take,if_pos hlt]
theorem MineR.treesQ {base:Nat} {t:TypeId} {v:Value} {rows:List (List Value)} {es:List Ex} (h:MineR w base t 11 v rows) (hl:rows.length=es.length) (hq:∀b,v.ownBlock=some b→Q b) (he:∀(j:Nat) (e:Ex) (cs:List Value),es[j]? =some e→rows[j]? =some cs→RdEQ w Q e cs):RdTQ w Q v es:=by
 obtain⟨A,c,rfl,hc,hx⟩:=h.own;refine⟨A,c,by rw[hl],by omega,fun hn=>?_⟩;obtain⟨b,o,e,hb,hcell⟩:=hx (by omega);refine⟨b,o,e,hq b hb,RdKsQ.of fun j e' hj=>?_⟩;have hjl:j<rows.length:=by rw[hl];exact(List.getElem?_eq_some_iff.1 hj).1
 exact⟨rows[j],hcell j _ (List.getElem?_eq_getElem hjl),he j e' _ hj (List.getElem?_eq_getElem hjl)⟩
end
def Two (B M E:Nat) (b:Nat):Prop:=(b<B∨M≤b)∧b<E
end Go.Proofs.YtcimmbhdcebehaaGreatDoor
namespace Go.Proofs.YtcimmbhdcebehaaGreatDoor
open Go.RowKit Pl
def zeroX:Value:= .agg #[.int .i64 0,.int .i64 0,.int .i64 0,.int .i64 0,.int .i64 0,.int .i64 0,.int .i64 0,.string ⟨#[]⟩,.slice none 0 0,.slice none 0 0,.slice none 0 0]
theorem slX:SlR Tryz.prog 32 34 11 144 zeroX:=⟨Tryz.underlying32,by kernel_rfl,rfl,by decide,by decide⟩
def Trees (w:World) (Q:Nat→Prop) (es:List Ex) (rows:List (List Value)):Prop:=rows.length=es.length∧∀(j:Nat) (e:Ex) (cs:List Value),es[j]? =some e→rows[j]? =some cs→RdEQ w Q e cs
def Offs (B0 M:Nat) (s:Value) (E b:Nat):Prop:=(b<B0∨M≤b)∧b<E∧s.ownBlock≠some b
section
variable {w w':World} {Q Q':Nat→Prop} {es:List Ex} {rows:List (List Value)}
theorem Trees.nil (w:World) (Q:Nat→Prop):Trees w Q [] []:=⟨rfl,fun j e cs h=>by simp at h⟩
theorem Trees.keep {S:Nat→Prop} (h:Trees w Q es rows) (hq:∀b,Q b→b<w.heap.size∧¬S b∧Q' b) (hk:Keeps S w w'):Trees w' Q' es rows:=⟨h.1,fun j e cs h1 h2=>RdEQ.keep hq hk e cs (h.2 j e cs h1 h2)⟩
theorem Trees.snoc {e:Ex} {cs:List Value} (h:Trees w Q es rows) (he:RdEQ w Q e cs):Trees w Q (es++[e]) (rows++[cs]):=by
 refine⟨by rw[List.length_append,List.length_append,h.1];rfl,fun j e' cs' h1 h2=>?_⟩;by_cases hj:j<es.length
 ·rw[List.getElem?_append_left hj]at h1;rw[List.getElem?_append_left (by rw[h.1];exact hj)]at h2;exact h.2 j e' cs' h1 h2
 rw[List.getElem?_append_right (by omega)]at h1;rw[List.getElem?_append_right (by rw[h.1];omega),h.1]at h2;cases hz:j-es.length with
 |zero=>
  rw[hz]at h1 h2;obtain rfl:e=e':=by simpa using h1
  obtain rfl:cs=cs':=by simpa using h2
  exact he
 |succ z=>rw[hz]at h1;simp at h1
theorem Trees.step {B0 M r n c:Nat} {s:Value} {t:TypeId} {o:Obj} {e:Ex} {cs:List Value} {wr w3 w6:World} (hT:Trees wr (Offs B0 M s wr.heap.size) es rows) (hM:MineR wr M t 11 s rows) (hB:B0≤M) (hM2:M≤wr.heap.size) (g3:Grew wr w3) (he:RdEQ w3 (Two B0 wr.heap.size w3.heap.size) e cs)
  (k6:Keeps (fun i=>s.ownBlock=some i) (w3.alloc o) w6) (hr:some r=s.ownBlock∨r=(w3.alloc o).heap.size):Trees w6 (Offs B0 M (.slice (some ⟨r,0,none⟩) n c) w6.heap.size) (es++[e]) (rows++[cs]):=by
 have s3:=g3.size;have s4:(w3.alloc o).heap.size=w3.heap.size+1:=by simp
 have s6:=k6.size;have hso:∀k,s.ownBlock=some k→M≤k∧k<wr.heap.size:=hM.lt;have hrb:(.slice (some ⟨r,0,none⟩) n c:Value).ownBlock=some r:=rfl;have ga:Grew w3 (w3.alloc o):=(Grew.refl w3).alloc o;refine Trees.snoc (hT.keep (S:=fun i=>s.ownBlock=some i) (fun b hb=>?_) (Keeps.then_ ((g3.trans ga).keeps (S:=fun i=>s.ownBlock=some i)) k6 fun i _ h=>h)) (RdEQ.keep (S:=fun i=>s.ownBlock=some i) (fun b hb=>?_) (Keeps.then_ (ga.keeps (S:=fun i=>s.ownBlock=some i)) k6 fun i _ h=>h) e cs he)
 ·obtain⟨h1,h2,h3⟩:=hb;refine⟨h2,h3,h1,by omega,fun h4=>?_⟩;rw[hrb]at h4;injection h4 with h4;subst h4;rcases hr with hr|hr
  ·exact h3 hr.symm
  omega
 obtain⟨h1,h2⟩:=hb;refine⟨h2,fun h4=>?_,by omega,by omega,fun h4=>?_⟩
 ·have:=hso b h4;omega
 rw[hrb]at h4;injection h4 with h4;subst h4;rcases hr with hr|hr
 ·have:=hso r hr.symm;omega
 omega
end
theorem MineR.made {e:TypeId} {sz:Nat} {w:World} {base c:Nat} (cs:Array Value) (hc:cs.size=c*sz) (hm:c≤maxLen) (hb:base≤w.heap.size):MineR (w.alloc (.cells cs e)) base e sz (.slice (some ⟨w.heap.size,0,none⟩) 0 c) []:=by
 refine⟨⟨by simp,.inr ⟨w.heap.size,c,cs,rfl,hb,Box.new w e cs,Nat.zero_le _,hm,hc,by simp⟩⟩,by intro r hr;cases hr⟩
theorem foldX (e:Ex) (a b c:Value):List.foldl (fun(cs:Array Value) (x:Value×Nat)=>cs.setIfInBounds x.snd x.fst) #[.int .i64 0,.int .i64 0,.int .i64 0,.int .i64 0,.int .i64 0,.int .i64 0,.int .i64 0,.string ⟨#[]⟩,.slice none 0 0,.slice none 0 0,.slice none 0 0] (cells11 e a b c).zipIdx=(cells11 e a b c).toArray:=by
 simp[cells11,List.zipIdx]
theorem cells11_one {e:Ex} {w:World} {Q:Nat→Prop} {cs:List Value} (h:RdEQ w Q e cs):∀v∈cs,v.oneCell'=true:=by
 obtain⟨vm,vb,vk,rfl,h1,h2,h3⟩:=h.open_;obtain⟨A1,n1,c1,rfl, -⟩:=h1.slice;obtain⟨A2,n2,c2,rfl, -⟩:=h2.slice;obtain⟨A3,n3,c3,rfl, -⟩:=h3.slice;intro v hv;simp[cells11]at hv;rcases hv with rfl|rfl|rfl|rfl|rfl|rfl|rfl|rfl|rfl|rfl|rfl<;>rfl
theorem app_tree {ops:Array Oper} {rest:List Oper} {o:Oper} {a:Act} {Q:Exit→Act→World→Prop} (hgd:o.guard=none) (s x:Operand)
  (ho:o.op= .call { callee:= .builtin .append,args:=#[s,x],argTypes:=#[32,32] })
  {wr w3:World} {B0 M:Nat} {es:List Ex} {rows:List (List Value)} {e:Ex} {v v1 v2 v3:Value} {c:Nat} (hs:a.eval s=v) (hx:a.eval x= .slice (some ⟨w3.heap.size,0,none⟩) 1 c) (hc:1≤c)
  (hM:MineR wr M 34 11 v rows) (hT:Trees wr (Offs B0 M v wr.heap.size) es rows) (hB:B0≤M) (hM2:M≤wr.heap.size) (g3:Grew wr w3) (he:RdEQ w3 (Two B0 wr.heap.size w3.heap.size) e (cells11 e v1 v2 v3)) (hn:es.length<1099511627)
  (h:∀A n c w6,Hid (∃rows',MineR w6 M 34 11 (.slice A n c) rows'∧Trees w6 (Offs B0 M (.slice A n c) w6.heap.size) (es++[e]) rows'∧Keeps (fun i=>M≤i) wr w6)→wpList Tryz.prog ops Q rest (a.put o.dst (.slice A n c)) w6):
  wpList Tryz.prog ops Q (o::rest) a (w3.alloc (.cells (List.foldl (fun(cs:Array Value) (x:Value×Nat)=>cs.setIfInBounds x.snd x.fst) #[.int .i64 0,.int .i64 0,.int .i64 0,.int .i64 0,.int .i64 0,.int .i64 0,.int .i64 0,.string ⟨#[]⟩,.slice none 0 0,.slice none 0 0,.slice none 0 0] (cells11 e v1 v2 v3).zipIdx) 34)):=by
 rw[foldX];have hM3:=hM.grew g3;refine app_oneR slX hgd s x ho hs (hM3.alloc _) w3.heap.size c (cells11 e v1 v2 v3) 34 hx hc (Box.new w3 34 _) rfl (cells11_one he) (by rw[hT.1];exact hn) (by have:=g3.size;simp;omega) ?_;intro r cap w6 hM6 hk6 hr6 hbr6 hlr6;exact h _ _ _ _ (Lib.hid ⟨_,hM6,hT.step hM hB hM2 g3 he hk6 hr6,Keeps.then_ ((g3.keeps (S:=fun i=>M≤i)).alloc _) hk6 fun i hi e=>(hM3.lt i e).1⟩)
theorem at_make {P:Program} {ops:Array Oper} {rest:List Oper} {o:Oper} {a:Act} {Q:Exit→Act→World→Prop} {w:World} (T:TypeId) (l c:Operand) (_:o.op= .makeSlice T l c) (h:wpList P ops Q (o::rest) a w):wpList P ops Q (o::rest) a w:=h
theorem make_X {ops:Array Oper} {rest:List Oper} {o:Oper} {a:Act} {Q:Exit→Act→World→Prop} {w:World} (hgd:o.guard=none) (l c:Operand) (ho:o.op= .makeSlice 32 l c) (n:Nat) (hl:a.eval l= .int .i64 0) (hc:a.eval c= .int .i64 (n:Nat)) (hn:n≤1000000)
  (h:∀w',MineR w' w.heap.size 34 11 (.slice (some ⟨w.heap.size,0,none⟩) 0 n) []→Grew w w'→wpList Tryz.prog ops Q rest (a.put o.dst (.slice (some ⟨w.heap.size,0,none⟩) 0 n)) w'):wpList Tryz.prog ops Q (o::rest) a w:=by
 obtain⟨i,hi,hz,hs,hby⟩:=info_parts slX.info;refine wpList_make_own w hgd l c 32 ho w.heap.size 34 i zeroX 11 Tryz.underlying32 hi hz hs .i64 .i64 n n hl hc rfl (by rw[hby];omega) (by unfold maxLen;omega) (Nat.le_refl _) fun w' h1 h2=>h w' ⟨h1,by intro r hr;cases hr⟩ ((Keeps.refl _ w).grown h2 fun k e _=>by cases e)
theorem cells11_wk (e:Ex) (ks:List Ex) (a b c:Value):cells11 (e.withKids ks) a b c=cells11 e a b c:=by cases e;rfl
end Go.Proofs.YtcimmbhdcebehaaGreatDoor
namespace Go.Proofs.YtcimmbhdcebehaaGreatDoor
open Go
section
variable {P:Program} {ops:Array Oper} {Q:Exit→Act→World→Prop} {md:Region.Mode} {Gs:List (Nat×(World→Prop))}
def Known (Gs:List (Nat×(World→Prop))) (listed:Array Bool) (w:World):Prop:=∀p∈Gs,listed.getD p.1 false=false→p.2 w
def ClosedL (md:Region.Mode) (ops:Array Oper) (listed:Array Bool):Prop:=
 ∀j oj,ops[j]? =some oj→listed.getD j false=true→∀e∈oj.after,Region.binds md e=true→listed.getD e.on false=true
theorem ClosedL.start (n:Nat):ClosedL md ops (Array.replicate n false):=fun j oj _ hl=>by
 rw[getD_replicate_false]at hl;cases hl
theorem ClosedL.set {i:Nat} {listed:Array Bool} (h:ClosedL md ops listed) (hi:i∈Region.ready md ops listed):ClosedL md ops (listed.setIfInBounds i true):=fun j oj hj hl e he hb=>by
 obtain⟨_,oi,hoi,hall⟩:=mem_ready.1 hi;by_cases hij:i=j
 ·subst hij;have:oj=oi:=Option.some.inj (hj.symm.trans hoi);subst this;exact getD_set_true (hall e he hb)
 rw[getD_set_ne false hij]at hl;exact getD_set_true (h j oj hj hl e he hb)
theorem ClosedL.before {i s:Nat} {listed:Array Bool} (h:ClosedL md ops listed) (hun:listed.getD i true=false) (hw:Region.waitsFor md ops s i=true):listed.getD s false=false:=by
 obtain⟨oj,hoj,e,he,hb,hon⟩:=Region.waitsFor_spec hw;cases hl:listed.getD s false with
 |false=>rfl
 |true=>
  have h2:=h s oj hoj hl e he hb;rw[hon,getD_both hun]at h2;cases h2
theorem ClosedL.before' {i s:Nat} {listed:Array Bool} (h:ClosedL md ops listed) (hun:listed.getD i false=false) (hw:Region.waitsFor md ops s i=true):listed.getD s false=false:=by
 obtain⟨oj,hoj,e,he,hb,hon⟩:=Region.waitsFor_spec hw;cases hl:listed.getD s false with
 |false=>rfl
 |true=>
  have h2:=h s oj hoj hl e he hb;rw[hon,hun]at h2;cases h2
def pathB (md:Region.Mode) (ops:Array Oper):List Nat→Bool
 |a::b::r=>Region.waitsFor md ops a b&&pathB md ops (b::r)
 |_=>true
theorem ClosedL.path {i:Nat} {listed:Array Bool} (h:ClosedL md ops listed) (hun:listed.getD i false=false):∀(mid:List Nat) (s:Nat),pathB md ops (s::(mid++[i]))=true→listed.getD s false=false
 |[],s,hw=>h.before' hun (by simpa[pathB]using hw)
 |k::mid,s,hw=>by
  simp only[List.cons_append,pathB,Bool.and_eq_true]at hw;exact h.before' (h.path hun mid k hw.2) hw.1
def MayMeet (md:Region.Mode) (ops:Array Oper) (Gs:List (Nat×(World→Prop))) (i:Nat) (w:World):Prop:=∃l,ClosedL md ops l∧l.getD i true=false∧Known Gs l w
def wpAnyD (P:Program) (md:Region.Mode) (ops:Array Oper) (Q:Exit→Act→World→Prop) (Gs:List (Nat×(World→Prop))):Nat→Array Bool→Act→World→Prop
 |0,listed,a,w=>Region.ready md ops listed=[]∧Q .normal a w
 |fuel+1,listed,a,w=>
  (Region.ready md ops listed=[]→Q .normal a w)∧
  ∀i∈Region.ready md ops listed,wpOp P ops Q i (fun a' w'=>Known Gs (listed.setIfInBounds i true) w'∧wpAnyD P md ops Q Gs fuel (listed.setIfInBounds i true) a' w') a w
theorem wpAny_of_D:∀(fuel:Nat) (listed:Array Bool) (a:Act) (w:World),wpAnyD P md ops Q Gs fuel listed a w→wpAny P md ops Q fuel listed a w
 |0,_,_,_,h=>h
 |fuel+1,_,_,_,h=>⟨h.1,fun i hi=>wpOp_mono (fun a' w' h'=>wpAny_of_D fuel _ a' w' h'.2) (h.2 i hi)⟩
theorem Known.set {i:Nat} {l:Array Bool} {w:World} (hne:∀p∈Gs,p.1≠i):Known Gs (l.setIfInBounds i true) w↔Known Gs l w:=by
 unfold Known;constructor
 ·intro h p hp hl;exact h p hp (by rw[getD_set_ne false (Ne.symm (hne p hp))];exact hl)
 intro h p hp hl;exact h p hp (by rw[getD_set_ne false (Ne.symm (hne p hp))]at hl;exact hl)
theorem wpAnyD_first {i:Nat} {oi:Oper} {v:Value} (hi:ops[i]? =some oi) (hsel:∀(j:Nat) (o:Oper) cs b,ops[j]? =some o→o.op≠.select cs b)
  (hQ:∀c a w,Q (.panic c) (a.put oi.dst v) w→Q (.panic c) a w) (hne:∀p∈Gs,p.1≠i):
  ∀(fuel:Nat) (listed:Array Bool) (a:Act) (w:World),ClosedL md ops listed→
   (∀j oj,ops[j]? =some oj→j≠i→listed.getD j true=false→(∀e∈oj.after,Region.binds md e=true→e.on≠i)→oi.apart ops oj=true)→
   i∈Region.ready md ops listed→YieldsIf P ops (MayMeet md ops Gs i) oi v a→Known Gs listed w→
   wpAnyD P md ops Q Gs fuel (listed.setIfInBounds i true) (a.put oi.dst v) w→wpAnyD P md ops Q Gs (fuel+1) listed a w:=by
 intro fuel
 induction fuel with
 |zero=>
  intro listed a w hcl _ hr hy hS H;refine⟨fun h=>(by rw[h]at hr;cases hr),fun j hj=>?_⟩;by_cases hji:j=i
  ·subst hji;exact hy.wpOp hi ⟨listed,hcl,(mem_ready.1 hr).1,hS⟩ ⟨(Known.set hne).2 hS,H⟩
  have:=ready_mono hj hji;rw[H.1]at this;cases this
 |succ fuel ih=>
  intro listed a w hcl hfree hr hy hS H;refine⟨fun h=>(by rw[h]at hr;cases hr),fun j hj=>?_⟩;by_cases hji:j=i
  ·subst hji;exact hy.wpOp hi ⟨listed,hcl,(mem_ready.1 hr).1,hS⟩ ⟨(Known.set hne).2 hS,H⟩
  have h1:=H.2 j (ready_mono hj hji);obtain⟨hjun,oj,hoj,hall⟩:=mem_ready.1 hj;have hnot:∀e∈oj.after,Region.binds md e=true→e.on≠i:=fun e he hb heq=>by
   have h1:=hall e he hb;rw[heq,getD_both (mem_ready.1 hr).1]at h1;cases h1
  have h2:=wpOp_putIf hoj (hfree j oj hoj hji hjun hnot) (fun cs b=>hsel i oi cs b hi) (fun cs b=>hsel j oj cs b hoj) hQ hy h1;have hfree':∀k ok,ops[k]? =some ok→k≠i→(listed.setIfInBounds j true).getD k true=false→
    (∀e∈ok.after,Region.binds md e=true→e.on≠i)→oi.apart ops ok=true:=fun k ok hk hki hun hno=>by
   refine hfree k ok hk hki ?_ hno;by_cases hjk:j=k
   ·subst hjk;exact hjun
   rw[getD_set_ne true hjk]at hun;exact hun
  refine wpOp_mono (fun a' w' h3=>?_) h2;obtain⟨h4,h5,h6⟩:=h3;rw[Array.setIfInBounds_comm _ _ (Ne.symm hji)]at h5 h6;have h7:=(Known.set hne).1 h5;exact⟨h7,ih (listed.setIfInBounds j true) a' w' (hcl.set hj) hfree' (ready_mono hr (Ne.symm hji)) h4 h7 h6⟩
theorem not_store {i:Nat} (h:(Gs.map (·.1)).contains i=false):∀p∈Gs,p.1≠i:=fun p hp e=>by
 have:(Gs.map (·.1)).contains i=true:=by
  rw[List.contains_iff_mem];exact List.mem_map.2 ⟨p,hp,e⟩
 rw[h]at this;cases this
theorem take_pure {i:Nat} {oi:Oper} {v:Value} {fuel:Nat} {listed:Array Bool} {a:Act} {w:World} (hi:ops[i]? =some oi)
  (hs:Region.noSelect ops=true) (hf:Region.free md ops listed i=true) (hr:(Region.ready md ops listed).contains i=true) (hcl:ClosedL md ops listed) (hK:Known Gs listed w) (hne':(Gs.map (·.1)).contains i=false)
  (hQ:∀c a w,Q (.panic c) (a.put oi.dst v) w→Q (.panic c) a w) (hgd:oi.guard=none) (hy:∀w,(execOp a.eval oi).run P w= .ok (.value v) w)
  (h:ClosedL md ops (listed.setIfInBounds i true)→Known Gs (listed.setIfInBounds i true) w→wpAnyD P md ops Q Gs fuel (listed.setIfInBounds i true) (a.put oi.dst v) w):wpAnyD P md ops Q Gs (fuel+1) listed a w:=by
 have hr':i∈Region.ready md ops listed:=by simpa using hr
 have hne:=not_store hne';exact wpAnyD_first hi (Region.noSelect_spec hs) hQ hne fuel listed a w hcl (Region.free_spec hi hf) hr' (.inl ⟨by simp[Region.wanted,hgd],fun w _=>hy w⟩) hK (h (hcl.set hr') ((Known.set hne).2 hK))
theorem take_load (s:Nat) (A:World→Prop) {i:Nat} {oi:Oper} {v:Value} {fuel:Nat} {listed:Array Bool} {a:Act} {w:World} (hi:ops[i]? =some oi)
  (hs:Region.noSelect ops=true) (hf:Region.free md ops listed i=true) (hr:(Region.ready md ops listed).contains i=true) (hcl:ClosedL md ops listed) (hK:Known Gs listed w) (hne':(Gs.map (·.1)).contains i=false)
  (k:Nat) (hm':Gs[k]? =some (s,A)) (hw:Region.waitsFor md ops s i=true)
  (hQ:∀c a w,Q (.panic c) (a.put oi.dst v) w→Q (.panic c) a w) (hgd:oi.guard=none) (hy:∀w,A w→(execOp a.eval oi).run P w= .ok (.value v) w)
  (h:ClosedL md ops (listed.setIfInBounds i true)→Known Gs (listed.setIfInBounds i true) w→wpAnyD P md ops Q Gs fuel (listed.setIfInBounds i true) (a.put oi.dst v) w):wpAnyD P md ops Q Gs (fuel+1) listed a w:=by
 have hr':i∈Region.ready md ops listed:=by simpa using hr
 have hne:=not_store hne';exact wpAnyD_first hi (Region.noSelect_spec hs) hQ hne fuel listed a w hcl (Region.free_spec hi hf) hr' (.inl ⟨by simp[Region.wanted,hgd],fun w ⟨l,h1,h2,h3⟩=>hy w (h3 _ (List.mem_of_getElem? hm') (h1.before h2 hw))⟩) hK (h (hcl.set hr') ((Known.set hne).2 hK))
theorem take_row (s:Nat) (A:World→Prop) {i:Nat} {oi:Oper} {fuel:Nat} {listed:Array Bool} {a:Act} {w:World} (hi:ops[i]? =some oi)
  (hs:Region.noSelect ops=true) (hf:Region.free md ops listed i=true) (hr:(Region.ready md ops listed).contains i=true) (hcl:ClosedL md ops listed) (hK:Known Gs listed w) (hne':(Gs.map (·.1)).contains i=false)
  (k:Nat) (hm':Gs[k]? =some (s,A)) (hw:Region.waitsFor md ops s i=true) (ty:TypeId) (x:Operand) (ho:oi.op= .load ty x) (b o:Nat) (hx:a.eval x= .pointer (some ⟨b,o,none⟩)) (cs:List Value) (d:TypeDesc) (hS:∀w,A w→w.rangeAt b o cs)
  (hu:P.underlying ty=some d) (hd:d.isRow=true) (hin:(P.info? ty).map (·.size)=some cs.length)
  (hQ:∀c a w,Q (.panic c) (a.put oi.dst (.agg cs.toArray)) w→Q (.panic c) a w) (hgd:oi.guard=none)
  (h:ClosedL md ops (listed.setIfInBounds i true)→Known Gs (listed.setIfInBounds i true) w→wpAnyD P md ops Q Gs fuel (listed.setIfInBounds i true) (a.put oi.dst (.agg cs.toArray)) w):wpAnyD P md ops Q Gs (fuel+1) listed a w:=
 take_load s A hi hs hf hr hcl hK hne' k hm' hw hQ hgd (fun w' hA=>by
  unfold execOp;simp only[ho,hx,Instr.loadAt,Instr.sureAddr,Sem.run_bind,Sem.run_pure,Result.andThen_ok,run_loadVar_mid w' b o ty cs d (hS w' hA) hu hd hin]) h
theorem ClosedL.one {i:Nat} {listed:Array Bool} (h:ClosedL md ops listed) (hr:Region.ready md ops listed=[i]):ClosedL md ops (listed.setIfInBounds i true):=h.set (by rw[hr];simp)
theorem one_next {i:Nat} {oi:Oper} {fuel:Nat} {listed:Array Bool} {a:Act} {w:World} (hcl:ClosedL md ops listed) (hr:Region.ready md ops listed=[i]) (hi:ops[i]? =some oi) (hgd:oi.guard=none)
  (h:∀K:Act→World→Prop,(∀a' w',Known Gs (listed.setIfInBounds i true) w'→(ClosedL md ops (listed.setIfInBounds i true)→Known Gs (listed.setIfInBounds i true) w'→wpAnyD P md ops Q Gs fuel (listed.setIfInBounds i true) a' w')→K a' w')→oi.wp P a w K Q):wpAnyD P md ops Q Gs (fuel+1) listed a w:=by
 refine⟨(fun h0=>by rw[hr]at h0;cases h0),fun j hj=>?_⟩;have hj':=hj;rw[hr]at hj;have:j=i:=by simpa using hj
 subst this;unfold wpOp;simp only[hi,Region.wanted,hgd,if_true];exact .inl (h _ fun a' w' h1 h2=>⟨h1,h2 (hcl.set hj') h1⟩)
theorem known_one {s1:Nat} {A:World→Prop} {l:Array Bool} {w:World} (h1:l.getD s1 false=true∨A w):Known [(s1,A)] l w:=by
 intro p hp hl;obtain rfl:=List.mem_singleton.1 hp;rcases h1 with h|h
 ·rw[h]at hl;cases hl
 exact h
theorem known_two {s1 s2:Nat} {A B:World→Prop} {l:Array Bool} {w:World} (h1:l.getD s1 false=true∨A w) (h2:l.getD s2 false=true∨B w):Known [(s1,A),(s2,B)] l w:=by
 intro p hp hl;rcases List.mem_cons.1 hp with rfl|hp
 ·rcases h1 with h|h
  ·rw[h]at hl;cases hl
  exact h
 obtain rfl:=List.mem_singleton.1 hp;rcases h2 with h|h
 ·rw[h]at hl;cases hl
 exact h
theorem all_done {listed:Array Bool} {a:Act} {w:World} (hr:Region.ready md ops listed=[]) (h:Q .normal a w):∀fuel,wpAnyD P md ops Q Gs fuel listed a w
 |0=>⟨hr,h⟩
 |_+1=>⟨fun _=>h,by rw[hr];simp⟩
theorem late_region (Gs:List (Nat×(World→Prop))) {id:Nat} {a:Act} {w:World} (hm:P.follows .mixedOrders=true) (hK:∀p∈Gs,p.2 w.drew)
  (h:ClosedL .any ops (Array.replicate ops.size false)→Known Gs (Array.replicate ops.size false) w.drew→wpAnyD P .any ops Q Gs ops.size (Array.replicate ops.size false) a w.drew):(Code.region id ops true).wp P Q a w:=
 wp_region_any hm (wpAny_of_D _ _ _ _ (h (ClosedL.start _) (fun p hp _=>hK p hp)))
end
section
variable {P:Program} {ops:Array Oper} {Q:Exit→Act→World→Prop} {md:Region.Mode} {Gs:List (Nat×(World→Prop))}
def YC (P:Program) (ops:Array Oper) (S:World→Prop) (o:Oper) (v:Value) (f:FuncId) (args:Array Value) (a:Act):Prop:=
 Region.wanted o (yielded ops a.tmps)=true∧(∀w,S w→(execOp a.eval o).run P w= .ok (.enter f args) w)∧∀w,S w→Calls P f args w fun e w'=>e= .returned v∧w'=w
variable {f:FuncId} {args:Array Value}
theorem YC.wpOp {S:World→Prop} {i:Nat} {o:Oper} {v:Value} {a:Act} (hi:ops[i]? =some o) (hy:YC P ops S o v f args a)
  {K:Act→World→Prop} {w:World} (hS:S w) (h:K (a.put o.dst v) w):wpOp P ops Q i K a w:=by
 unfold Go.wpOp;simp only[hi];obtain⟨hw,hv,hc⟩:=hy;simp only[hw,if_true,Oper.wp,hv w hS,Oper.upon];refine .inl ((hc w hS).mono fun e w' he=>?_);obtain⟨rfl,rfl⟩:=he;exact h
end
end Go.Proofs.YtcimmbhdcebehaaGreatDoor
