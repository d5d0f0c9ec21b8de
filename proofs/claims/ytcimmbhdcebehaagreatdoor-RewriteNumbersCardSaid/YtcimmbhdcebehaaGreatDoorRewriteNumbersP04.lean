/- What the card of the law stands on: ValPl, RowR, TreeB, SameM, Nodes, RefB, Pack, Code, Second, RdA, RdB, RdC, RBits, CRead, ReadInts, RRead, RRd2, RRd3, RRd4, RRI, Dict, Texts, Equal, Find. -/
import Derived.Test.YtcimmbhdcebehaaGreatDoorRewriteNumbersP03
import Derived.Test.YtcimmbhdcebehaaGreatDoorRewriteNumbersP01
import Derived.Test.YtcimmbhdcebehaaGreatDoorRewriteNumbersP02
import Derived.ChangeKeysEq
import Derived.Laws.StructEq
import Derived.Deep.DeepCutAuto
import Derived.Deep.RegionHeld3
import Derived.Deep.QuietTactic
import Derived.BigQuiet
import Derived.Maps.Own
import Derived.Maps.OwnOps
import Derived.Maps.OwnSet
import Derived.Maps.Views
set_option maxRecDepth 100000
set_option maxHeartbeats 12800000
set_option linter.unusedVariables false
set_option linter.unusedSimpArgs false
namespace Go.Proofs.YtcimmbhdcebehaaGreatDoor
open Pl
def nameC (i c:Nat):Bool:=decide (97≤c∧c≤122)||(decide (i≠0)&&(decide (48≤c∧c≤57)||decide (c=95)))
def nameB (s:ByteArray):Bool:=decide (1≤s.size∧s.size≤16)&&(List.range s.size).all fun i=>nameC i (s[i]!).toNat
def valueC (c:Nat):Bool:=decide (33≤c∧c≤126∧c≠34∧c≠92∧c≠44∧c≠123∧c≠125)
def valueB (s:ByteArray):Bool:=decide (s.size≤16)&&(List.range s.size).all fun i=>valueC (s[i]!).toNat
def matcherB (m:Mt):Bool:=nameB m.1&&decide (0≤m.2.1∧m.2.1≤2)&&valueB m.2.2
def leB (a b:ByteArray):Bool:=Op.bytesLess a.toList b.toList||a.toList==b.toList
def byB (l:List ByteArray) (i:Nat):Bool:=match l[i]? with
 |none=>true
 |some s=>nameB s&&(match i with
  |0=>true
  |j+1=>match l[j]? with
   |none=>true
   |some r=> !leB s r)
def bysB (l:List ByteArray):Bool:=(List.range l.length).all fun i=>byB l i
def groupL:List ByteArray:=["sum".toUTF8,"min".toUTF8,"max".toUTF8,"count".toUTF8,"kth".toUTF8]
def groupB (s:ByteArray):Bool:=groupL.any fun g=>g.toList==s.toList
def shapedB (e:Ex):Bool:=
 (decide (e.kind=0∧e.fn=0∧e.kids.length=0)&&validF e.num e.den||decide (e.kind=1∧0≤e.fn∧e.fn≤7∧e.kids.length=0∧e.num=0∧e.den=0)||decide (e.kind=2∧0≤e.fn∧e.fn≤4∧e.kids.length=1∧e.num=0∧e.den=0)||decide (e.kind=3∧0≤e.fn∧e.fn≤3∧e.kids.length=2∧e.num=0∧e.den=0))
 &&decide (e.kind≠1→e.window=0∧e.offset=0∧e.name.size=0∧e.ms.length=0)&&decide (e.kind≠1→e.kind≠2→e.k=0)&&decide (e.kind≠2→e.bys.length=0)
def namedB (e:Ex):Bool:=(decide (e.kind≠1)||(nameB e.name&& !groupB e.name))&&e.ms.all matcherB&&bysB e.bys
def withinB (e:Ex):Bool:=
 if e.kind=1 then decide (0≤e.offset∧e.offset≤4096)&&(if e.fn=0 then decide (e.window=0∧e.k=0)else decide (1≤e.window∧e.window≤4096)&&(if e.fn=7 then decide (1≤e.k∧e.k≤e.window)else decide (e.k=0)))
 else if e.kind=2∧e.fn=4 then decide (1≤e.k∧e.k≤4096)else decide (e.k=0)
def nodeV (e:Ex):Int:=if shapedB e=false then 1 else if namedB e=false then 8 else if 8<e.ms.length∨8<e.bys.length then 4 else if withinB e=false then 5 else 0
mutual
def checkE:Ex→Int
 | .mk k f w o q n d nm ms bs ks=>if nodeV (.mk k f w o q n d nm ms bs ks)≠0 then nodeV (.mk k f w o q n d nm ms bs ks)else checkKs ks
def checkKs:List Ex→Int
 |[]=>0
 |e::es=>if checkE e≠0 then checkE e else checkKs es
end
theorem checkE_eq (e:Ex):checkE e=if nodeV e≠0 then nodeV e else checkKs e.kids:=by
 cases e;rw[checkE];rfl
def validE (e:Ex):Int:=if 12<depthE e∨200<nodesE e then 4 else checkE e
theorem checkKs_take {es:List Ex} {j:Nat} {e:Ex} (h:es[j]? =some e) (h0:checkKs (es.take j)=0):checkKs (es.take (j+1))=checkE e:=by
 induction es generalizing j with
 |nil=>simp at h
 |cons a tl ih=>
  cases j with
  |zero=>
   obtain rfl:a=e:=by simpa using h
   simp[checkKs];omega
  |succ j=>
   rw[List.take_succ_cons]at h0 ⊢;unfold checkKs at h0 ⊢;split at h0
   ·contradiction
   ·rename_i hc
    rw[if_neg hc];exact ih (by simpa using h) h0
theorem checkKs_first {es:List Ex} {j:Nat} (h0:checkKs (es.take j)≠0):checkKs es=checkKs (es.take j):=by
 induction es generalizing j with
 |nil=>simp[checkKs]at h0
 |cons a tl ih=>
  cases j with
  |zero=>simp[checkKs]at h0
  |succ j=>
   rw[List.take_succ_cons]at h0 ⊢;unfold checkKs at h0 ⊢;split at h0
   ·rename_i hc
    rw[if_pos hc,if_pos hc]
   ·rename_i hc
    rw[if_neg hc,if_neg hc];exact ih h0
theorem checkKs_zero:∀{es:List Ex},checkKs es=0↔∀e∈es,checkE e=0
 |[]=>by simp[checkKs]
 |e::es=>by
  unfold checkKs;rw[List.forall_mem_cons,←checkKs_zero];split
  ·rename_i h;constructor
   ·intro h';exact absurd h' h
   intro h';exact absurd h'.1 h
  ·rename_i h
   have h:checkE e=0:=by omega
   simp[h]
theorem checkE_all:∀(n:Nat) (e:Ex),nodesE e≤n→(checkE e=0↔AllE (fun e=>nodeV e=0) e)
 |0,e,h=>absurd (nodes_pos e) (by omega)
 |n+1,e,h=>by
  rw[checkE_eq,AllE_iff];have h2:nodesE e=1+nodesKs e.kids:=by cases e;rw[nodesE];rfl
  split
  ·rename_i hc;constructor
   ·intro h';exact absurd h' hc
   intro h';exact absurd h'.1 hc
  ·rename_i hc
   have hc:nodeV e=0:=by omega
   rw[checkKs_zero];constructor
   ·exact fun h'=>⟨hc,fun k hk=>(checkE_all n k (by have:=nodesKs_mem hk;omega)).1 (h' k hk)⟩
   exact fun h' k hk=>(checkE_all n k (by have:=nodesKs_mem hk;omega)).2 (h'.2 k hk)
theorem node_shaped {e:Ex} (h:nodeV e=0):shapedB e=true:=by
 unfold nodeV at h;split at h
 ·simp at h
 ·rename_i hc;simpa using hc
theorem shaped_pair {e:Ex} (h:shapedB e=true):Pair3 e:=by
 intro h3;simp[shapedB,h3]at h;omega
mutual
def cntE:Ex→Nat→Int→Int
 | .mk _ _ _ _ _ _ _ _ _ _ ks,dp,l=>cntKs ks (dp+1) (if 12<dp then -1 else l-1)
def cntKs:List Ex→Nat→Int→Int
 |[],_,l=>l
 |e::es,dp,l=>if l<0 then l else cntKs es dp (cntE e dp l)
end
theorem cntE_eq (e:Ex) (dp:Nat) (l:Int):cntE e dp l=cntKs e.kids (dp+1) (if 12<dp then -1 else l-1):=by
 cases e;rw[cntE];rfl
theorem cntKs_neg {es:List Ex} {dp:Nat} {l:Int} (h:l<0):cntKs es dp l=l:=by
 cases es with
 |nil=>rfl
 |cons e es=>rw[cntKs,if_pos h]
theorem cntKs_take {es:List Ex} {j:Nat} {e:Ex} {dp:Nat} {l:Int} (h:es[j]? =some e) (h0:0≤cntKs (es.take j) dp l):cntKs (es.take (j+1)) dp l=cntE e dp (cntKs (es.take j) dp l):=by
 induction es generalizing j l with
 |nil=>simp at h
 |cons a tl ih=>
  cases j with
  |zero=>
   obtain rfl:a=e:=by simpa using h
   have hl:0≤l:=by simpa[cntKs]using h0
   simp[cntKs];omega
  |succ j=>
   rw[List.take_succ_cons]at h0 ⊢;rw[List.take_succ_cons];rw[cntKs]at h0;rw[cntKs,cntKs];split at h0
   ·omega
   ·rename_i hc
    rw[if_neg hc,if_neg hc];exact ih (by simpa using h) h0
theorem cntKs_first {es:List Ex} {j:Nat} {dp:Nat} {l:Int} (h0:cntKs (es.take j) dp l<0):cntKs es dp l=cntKs (es.take j) dp l:=by
 induction es generalizing j l with
 |nil=>simp
 |cons a tl ih=>
  cases j with
  |zero=>
   have:l<0:=by simpa[cntKs]using h0
   rw[List.take_zero,cntKs_neg this];rfl
  |succ j=>
   rw[List.take_succ_cons]at h0 ⊢;unfold cntKs at h0 ⊢;split at h0
   ·rename_i hc
    rw[if_pos hc,if_pos hc]
   ·rename_i hc
    rw[if_neg hc,if_neg hc];exact ih h0
theorem cnt_spec:∀(n:Nat),(∀(e:Ex) (dp:Nat) (l:Int),nodesE e≤n→0≤l→(((nodesE e:Nat):Int)≤l∧dp+depthE e≤13→cntE e dp l=l-(nodesE e:Nat))∧(¬(((nodesE e:Nat):Int)≤l∧dp+depthE e≤13)→cntE e dp l= -1))∧
  (∀(es:List Ex) (dp:Nat) (l:Int),nodesKs es<n→0≤l→(((nodesKs es:Nat):Int)≤l∧dp+depthKs es≤13∨es=[]→cntKs es dp l=l-(nodesKs es:Nat))∧(¬(((nodesKs es:Nat):Int)≤l∧dp+depthKs es≤13∨es=[])→cntKs es dp l= -1))
 |0=>⟨fun e _ _ h=>absurd (nodes_pos e) (by omega),fun _ _ _ h=>absurd h (by omega)⟩
 |n+1=>by
  obtain⟨hE,hK⟩:=cnt_spec n;have hK':∀(es:List Ex) (dp:Nat) (l:Int),nodesKs es<n+1→0≤l→(((nodesKs es:Nat):Int)≤l∧dp+depthKs es≤13∨es=[]→cntKs es dp l=l-(nodesKs es:Nat))∧(¬(((nodesKs es:Nat):Int)≤l∧dp+depthKs es≤13∨es=[])→cntKs es dp l= -1):=by
   intro es dp l hn hl;cases es with
   |nil=>exact⟨fun _=>by simp[cntKs,nodesKs],fun h=>absurd (.inr rfl) h⟩
   |cons e es=>
    have h1:nodesKs (e::es)=nodesE e+nodesKs es:=rfl;have h2:depthKs (e::es)=max (depthE e) (depthKs es):=rfl;have h0:=nodes_pos e;rw[cntKs,if_neg (by omega)];obtain⟨h3,h4⟩:=hE e dp l (by omega) hl;by_cases hg:((nodesE e:Nat):Int)≤l∧dp+depthE e≤13
    ·rw[h3 hg];obtain⟨h5,h6⟩:=hK es dp (l-(nodesE e:Nat)) (by omega) (by omega);constructor
     ·rintro(h|h)
      ·rw[h5 (.inl (by omega)),h1];omega
      cases h
     intro h;by_cases hes:es=[]
     ·subst hes;exact absurd (.inl (by rw[h1,h2,show nodesKs []=0 from rfl,show depthKs []=0 from rfl];omega)) h
     refine h6 fun h'=>?_
     rcases h' with h'|h'
     ·exact h (.inl (by omega))
     exact hes h'
    rw[h4 hg,cntKs_neg (by omega)];refine⟨fun h=>?_,fun _=>rfl⟩;rcases h with h|h
    ·omega
    cases h
  refine⟨?_,hK'⟩;intro e dp l hn hl;rw[cntE_eq];have h2:nodesE e=1+nodesKs e.kids:=by cases e;rw[nodesE];rfl
  have h3:depthE e=depthKs e.kids+1:=by cases e;rw[depthE];rfl
  have h4:e.kids=[]→nodesKs e.kids=0∧depthKs e.kids=0:=by intro h;rw[h];exact⟨rfl,rfl⟩
  by_cases hd:12<dp
  ·rw[if_pos hd,cntKs_neg (by omega)];exact⟨fun h=>by omega,fun _=>rfl⟩
  rw[if_neg hd];by_cases hl0:l=0
  ·rw[cntKs_neg (by omega)];exact⟨fun h=>by omega,fun _=>by omega⟩
  obtain⟨h5,h6⟩:=hK' e.kids (dp+1) (l-1) (by omega) (by omega);constructor
  ·intro h;rw[h5 (.inl (by omega)),h2];omega
  intro h;by_cases hk:e.kids=[]
  ·obtain⟨h7,h8⟩:=h4 hk;omega
  refine h6 fun h'=>?_
  rcases h' with h'|h'
  ·exact h (by omega)
  exact hk h'
theorem fits_iff (e:Ex):(0≤cntE e 1 200↔¬(12<depthE e∨200<nodesE e)):=by
 obtain⟨h1,h2⟩:=(cnt_spec (nodesE e)).1 e 1 200 (by omega) (by omega);by_cases h:((nodesE e:Nat):Int)≤200∧1+depthE e≤13
 ·rw[h1 h];omega
 rw[h2 h];omega
def foldV (e:Ex):Ex:=if validE e=0 then foldR e else e
end Go.Proofs.YtcimmbhdcebehaaGreatDoor
namespace Go.Proofs.YtcimmbhdcebehaaGreatDoor
open Go.RowKit
structure SlR (P:Program) (t e:TypeId) (sz bytes:Nat) (z:Value):Prop where
 under:P.underlying t=some (.slice e)
 info:(P.info? e).map (fun i=>(i.zero,i.size,i.bytes))=some (some z,sz,bytes)
 cells:z.cells.size=sz
 pos:0<sz
 small:bytes≤1024
def Even (sz:Nat) (rows:List (List Value)):Prop:=∀r∈rows,r.length=sz
theorem flatten_len {sz:Nat}:∀{rows:List (List Value)},Even sz rows→rows.flatten.length=rows.length*sz
 |[],_=>by simp
 |r::rs,h=>by
  rw[List.flatten_cons,List.length_append,h r List.mem_cons_self,flatten_len (fun r hr=>h r (List.mem_cons_of_mem _ hr)),List.length_cons,Nat.succ_mul];omega
theorem flatten_at {sz:Nat}:∀{rows:List (List Value)} {j k:Nat} {cs:List Value} {u:Value},Even sz rows→rows[j]? =some cs→cs[k]? =some u→rows.flatten[j*sz+k]? =some u
 |r::rs,0,k,cs,u,h,hj,hk=>by
  obtain rfl:r=cs:=by simpa using hj
  rw[List.flatten_cons,Nat.zero_mul,Nat.zero_add,List.getElem?_append_left (List.getElem?_eq_some_iff.1 hk).1];exact hk
 |r::rs,j+1,k,cs,u,h,hj,hk=>by
  have hl:=h r List.mem_cons_self;rw[List.flatten_cons,List.getElem?_append_right (by rw[hl,Nat.succ_mul];omega),hl,show(j+1)*sz+k-sz=j*sz+k by rw[Nat.succ_mul];omega];exact flatten_at (fun r hr=>h r (List.mem_cons_of_mem _ hr)) (by simpa using hj) hk
def MineR (w:World) (base:Nat) (e:TypeId) (sz:Nat) (v:Value) (rows:List (List Value)):Prop:=w.ownsRow base e sz v rows.length rows.flatten∧Even sz rows
section
variable {w w':World} {base sz:Nat} {e:TypeId} {v:Value} {rows:List (List Value)} {S:Nat→Prop}
theorem MineR.nil (w:World) (base:Nat) (e:TypeId) (sz:Nat):MineR w base e sz (.slice none 0 0) []:=⟨World.ownsRow_nil _ _ _ _,by intro r hr;cases hr⟩
theorem MineR.lt (h:MineR w base e sz v rows):∀k,v.ownBlock=some k→base≤k∧k<w.heap.size:=World.ownsRow.lt h.1
theorem MineR.keep (h:MineR w base e sz v rows) (hk:Keeps S w w') (hv:∀k,v.ownBlock=some k→¬S k):MineR w' base e sz v rows:=by
 obtain⟨⟨h1,h2⟩,h3⟩:=h;refine⟨⟨h1,?_⟩,h3⟩;rcases h2 with h2|⟨g,cap,cur,rfl,hg,hh,r⟩
 ·exact .inl h2
 have hlt:g<w.heap.size:=by
  rcases Nat.lt_or_ge g w.heap.size with hlt|hge
  ·exact hlt
  rw[Array.getElem?_eq_none hge]at hh;cases hh
 exact .inr ⟨g,cap,cur,rfl,hg,(hk.block g hlt (hv g rfl)).trans hh,r⟩
theorem MineR.grew (h:MineR w base e sz v rows) (hk:Grew w w'):MineR w' base e sz v rows:=h.keep hk fun _ _ e=>e
theorem MineR.alloc (h:MineR w base e sz v rows) (o:Obj):MineR (w.alloc o) base e sz v rows:=⟨World.ownsRow.alloc h.1 o,h.2⟩
theorem MineR.form (h:MineR w base e sz v rows):(v= .slice none 0 0∧rows=[])∨
  ∃g cap cur,v= .slice (some ⟨g,0,none⟩) rows.length cap∧base≤g∧Box w g e cur∧rows.length≤cap∧cap≤maxLen∧cur.size=cap*sz∧cur.toList.take (rows.length*sz)=rows.flatten:=by
 obtain⟨⟨h1,h2⟩,_⟩:=h;rcases h2 with⟨rfl,h2⟩|⟨g,cap,cur,rfl,hg,hh,h3,h4,h5,h6⟩
 ·exact .inl ⟨rfl,List.eq_nil_of_length_eq_zero h2⟩
 exact .inr ⟨g,cap,cur,rfl,hg,hh,h3,h4,h5,h6⟩
theorem MineR.slice (h:MineR w base e sz v rows):∃A n c,v= .slice A n c∧n=rows.length∧n≤c:=by
 rcases h.form with⟨rfl,rfl⟩|⟨g,cap,cur,rfl,_,_,h1,_⟩
 ·exact⟨_,_,_,rfl,rfl,Nat.le_refl _⟩
 exact⟨_,_,_,rfl,rfl,h1⟩
theorem MineR.rd (h:MineR w base e sz v rows):RdR w w.heap.size sz v rows:=by
 have he:=h.2;rcases h.form with⟨rfl,rfl⟩|⟨g,cap,cur,rfl,hb,hbox,h1,h2,h3,h4⟩
 ·exact⟨none,0,rfl,Nat.le_refl _,fun h=>absurd h (by simp)⟩
 refine⟨_,cap,rfl,h1,fun _=>⟨g,0,rfl,hbox.lt,fun j cs hj k u hk=>?_⟩⟩;have hf:=flatten_at he hj hk;have hlt:j*sz+k<rows.length*sz:=by rw[←flatten_len he];exact(List.getElem?_eq_some_iff.1 hf).1
 rw[Nat.zero_add,hbox.cell,←Array.getElem?_toList,←hf,←h4,List.getElem?_take,if_pos hlt]
theorem MineR.ne_box {g k:Nat} {t:TypeId} {xs:Array Value} (h:MineR w base e sz v rows) (hv:v.ownBlock=some k) (hb:Box w g t xs) (hne:e≠t):k≠g:=by
 rcases h.form with⟨rfl,_⟩|⟨g',cap,cur,rfl,_,hbox,_⟩
 ·cases hv
 have:g'=k:=by simpa[Value.ownBlock]using hv
 subst this;exact hbox.ne_ hb hne
end
section
variable {P:Program} {t e:TypeId} {sz bytes:Nat} {z:Value} {w:World} {base:Nat} {v:Value} {rows:List (List Value)}
theorem run_appR (T:SlR P t e sz bytes z) (ty:TypeId) (hown:MineR w base e sz v rows) {B:Nat} {sv:Value} {news:List (List Value)} (hr:RdR w B sz sv news) (hev:Even sz news) (h1:∀r∈news,∀u∈r,u.oneCell'=true)
  (hn:rows.length+news.length≤1099511627) (hbase:base≤w.heap.size):
  ∃v' w',(Builtin.append_ #[t,t] ty #[v,sv]).run P w= .ok v' w'∧MineR w' base e sz v' (rows++news)∧Keeps (fun i=>v.ownBlock=some i) w w'∧(v'.ownBlock=v.ownBlock∨v'.ownBlock=some w.heap.size):=by
 obtain⟨i,hi,hz,hs,hby⟩:=info_parts T.info;obtain⟨A,c,rfl,hc,hx⟩:=hr;have hb64:=T.small;rcases A with _|ad
 ·have hy:news=[]:=by
   rcases news with _|⟨y,ys⟩
   ·rfl
   obtain⟨b,o,h,_⟩:=hx (by simp);cases h
  subst hy;refine⟨v,w,?_,by simpa using hown,Keeps.refl _ _,.inl rfl⟩;rcases hown.1.2 with⟨rfl,h0⟩|⟨g,cap,cur,rfl,_,_,hnc,_⟩
  ·have:rows=[]:=List.eq_nil_of_length_eq_zero h0;subst this;simp[Builtin.append_,run_underlying T.under,sizeOf,typeInfo,hi,Builtin.lenOf,Builtin.firstCells]
  simp[Builtin.append_,run_underlying T.under,sizeOf,typeInfo,hi,Builtin.lenOf,Builtin.firstCells,hnc,storeCells]
 have hcells:∀j u,news.flatten[j]? =some u→w.cell? (ad.add j)=some u:=by
  intro j u hu;have hj:j<news.flatten.length:=(List.getElem?_eq_some_iff.1 hu).1;have hlen:=flatten_len hev;have hpos:0<news.length:=by
   rcases news with _|⟨y,ys⟩
   ·simp at hj
   simp
  obtain⟨b,o,h,_,hcell⟩:=hx hpos;injection h with h;subst h;have hq:j/sz<news.length:=by
   rw[Nat.div_lt_iff_lt_mul T.pos];omega
  have hjd:j/sz*sz+j%sz=j:=by rw[Nat.mul_comm];exact Nat.div_add_mod j sz
  have hk:j%sz<(news[j/sz]).length:=by rw[hev _ (List.getElem_mem hq)];exact Nat.mod_lt _ T.pos
  have hf:=flatten_at hev (List.getElem?_eq_getElem hq) (List.getElem?_eq_getElem hk);rw[hjd,hu]at hf;have hh:=hcell (j/sz) _ (List.getElem?_eq_getElem hq) (j%sz) _ (List.getElem?_eq_getElem hk);have e1:(⟨b,o,none⟩:Addr).add j=⟨b,o+j/sz*sz+j%sz,none⟩:=by
   rw[Nat.add_assoc,hjd];unfold Addr.add;split<;>simp_all
  rw[e1,hh];exact hf.symm
 have hm:(rows.length+news.length)*bytes≤140737488355328:=by
  have:=Nat.mul_le_mul hn hb64;omega
 obtain⟨v',w',hrun,h2,h3,_,h5⟩:=run_append_own_at (P:=P) w base t ty e i z sz bytes T.under hi hz hs hby T.cells T.pos v rows.length rows.flatten hown.1 ad news.length c news.flatten (flatten_len hev) hcells (fun u hu=>by
  obtain⟨r,hr,hu⟩:=List.mem_flatten.1 hu;exact h1 r hr u hu) (by unfold maxLen;omega) hm hbase
 refine⟨v',w',hrun,⟨?_,fun r hr=>?_⟩,(Keeps.refl _ w).grown h3 (fun k e _=>e),h5⟩
 ·rw[List.length_append,List.flatten_append];exact h2
 rcases List.mem_append.1 hr with hr|hr
 ·exact hown.2 r hr
 exact hev r hr
theorem app_oneR {ops:Array Oper} {rest:List Oper} {o:Oper} {a:Act} {Q:Exit→Act→World→Prop} (T:SlR P t e sz bytes z) (hgd:o.guard=none) (s x:Operand)
  (ho:o.op= .call { callee:= .builtin .append,args:=#[s,x],argTypes:=#[t,t] })
  (hs:a.eval s=v) (hown:MineR w base e sz v rows) (g c:Nat) (d:List Value) (t':TypeId) (hx:a.eval x= .slice (some ⟨g,0,none⟩) 1 c) (hc1:1≤c) (hb:Box w g t' d.toArray) (hd:d.length=sz) (h1:∀u∈d,u.oneCell'=true)
  (hn:rows.length<1099511627) (hbase:base≤w.heap.size)
  (h:∀r cap w',MineR w' base e sz (.slice (some ⟨r,0,none⟩) (rows.length+1) cap) (rows++[d])→Keeps (fun i=>v.ownBlock=some i) w w'→
   (some r=v.ownBlock∨r=w.heap.size)→base≤r→r<w'.heap.size→wpList P ops Q rest (a.put o.dst (.slice (some ⟨r,0,none⟩) (rows.length+1) cap)) w'):wpList P ops Q (o::rest) a w:=by
 have hr:RdR w w.heap.size sz (.slice (some ⟨g,0,none⟩) 1 c) [d]:=by
  refine⟨_,c,rfl,hc1,fun _=>⟨_,_,rfl,hb.lt,fun j cs hj k u hk=>?_⟩⟩;obtain⟨rfl,rfl⟩:j=0∧d=cs:=by
   cases j with
   |zero=>exact⟨rfl,by simpa using hj⟩
   |succ j=>simp at hj
  rw[Nat.zero_mul,Nat.add_zero,Nat.zero_add,hb.cell];simpa using hk
 refine wpList_plain hgd fun K hK=>?_
 obtain⟨v',w',hrun,h2,h3,h4⟩:=run_appR (P:=P) T o.type hown hr (by intro r hr;obtain rfl:=List.mem_singleton.1 hr;exact hd) (by intro r hr;obtain rfl:=List.mem_singleton.1 hr;exact h1) (by simp;omega) hbase;unfold Oper.wp execOp;simp only[ho,resolve,invoke,builtin,Sem.run_bind,Sem.run_pure,Result.andThen_ok,List.map_toArray,List.map_cons,List.map_nil,hs,hx,hrun];rcases h2.form with⟨_,hh⟩|⟨g',cap',cur,rfl,hb',hbox,_⟩
 ·simp at hh
 simp only[List.length_append,List.length_singleton]at h2 h4 ⊢;refine hK _ _ (h g' cap' w' h2 h3 ?_ hb' hbox.lt);rcases h4 with h4|h4
 ·exact .inl h4
 right;simpa[Value.ownBlock]using h4
end
def RdT (w:World) (B:Nat) (v:Value) (es:List Ex):Prop:=
 ∃A c,v= .slice A es.length c∧es.length≤c∧(0<es.length→∃b o,A=some ⟨b,o,none⟩∧b<B∧RdKs w B b o es)
section
variable {w w':World} {B B':Nat}
theorem RdE.open_ {e:Ex} {cs:List Value} (h:RdE w B e cs):∃vm vb vk,cs=cells11 e vm vb vk∧RdR w B 3 vm (e.ms.map mcells)∧RdR w B 1 vb (e.bys.map fun s=>[Value.string s])∧RdT w B vk e.kids:=by
 cases e;unfold RdE at h;exact h
theorem RdE.mk_ {e:Ex} {vm vb vk:Value} (h1:RdR w B 3 vm (e.ms.map mcells)) (h2:RdR w B 1 vb (e.bys.map fun s=>[Value.string s])) (h3:RdT w B vk e.kids):RdE w B e (cells11 e vm vb vk):=by
 cases e;unfold RdE;exact⟨vm,vb,vk,rfl,h1,h2,h3⟩
theorem RdT.nil (w:World) (B:Nat):RdT w B (.slice none 0 0) []:=⟨none,0,rfl,Nat.le_refl _,fun h=>absurd h (by simp)⟩
theorem RdR.nil (w:World) (B sz:Nat):RdR w B sz (.slice none 0 0) []:=⟨none,0,rfl,Nat.le_refl _,fun h=>absurd h (by simp)⟩
theorem RdT.keep {S:Nat→Prop} {v:Value} {es:List Ex} (h:RdT w B v es) (hB:B≤w.heap.size) (hB':B≤B') (hk:Keeps S w w') (hs:∀i,i<B→¬S i):RdT w' B' v es:=by
 obtain⟨A,c,hv,hc,hx⟩:=h;refine⟨A,c,hv,hc,fun hn=>?_⟩;obtain⟨b,o,e,hb,hks⟩:=hx hn;exact⟨b,o,e,by omega,RdKs.keep hB hB' hk hs b hb es o hks⟩
theorem RdT.grew {v:Value} {es:List Ex} (h:RdT w w.heap.size v es) (g:Grew w w'):RdT w' w'.heap.size v es:=h.keep (Nat.le_refl _) g.size g (fun _ _ h=>h)
theorem RdT.slice {v:Value} {es:List Ex} (h:RdT w B v es):∃A n c,v= .slice A n c∧n=es.length∧n≤c:=by
 obtain⟨A,c,rfl,hc,_⟩:=h;exact⟨A,_,c,rfl,rfl,hc⟩
theorem RdT.at_ {A:Option Addr} {n c j:Nat} {es:List Ex} {e:Ex} (h:RdT w B (.slice A n c) es) (hj:es[j]? =some e):∃b o cs,A=some ⟨b,o,none⟩∧b<B∧w.rangeAt b (o+j*11) cs∧RdE w B e cs:=by
 obtain⟨A',c',hv,_,hx⟩:=h;injection hv with hA;subst hA;have hl:j<es.length:=(List.getElem?_eq_some_iff.1 hj).1;obtain⟨b,o,rfl,hb,hks⟩:=hx (by omega);obtain⟨cs,h1,h2⟩:=hks.at_ hj;exact⟨b,o,cs,rfl,hb,h1,h2⟩
theorem RdKs.of {b:Nat}:∀{es:List Ex} {o:Nat},(∀(j:Nat) (e:Ex),es[j]? =some e→∃cs,w.rangeAt b (o+j*11) cs∧RdE w B e cs)→RdKs w B b o es
 |[],_,_=>by unfold RdKs;trivial
 |e::es,o,h=>by
  unfold RdKs;refine⟨by simpa using h 0 e rfl,RdKs.of fun j e' hj=>?_⟩;have:=h (j+1) e' (by simpa using hj);rwa[show o+(j+1)*11=o+11+j*11 by omega]at this
theorem cells11_len (e:Ex) (vm vb vk:Value):(cells11 e vm vb vk).length=11:=rfl
end
end Go.Proofs.YtcimmbhdcebehaaGreatDoor
namespace Go.Proofs.YtcimmbhdcebehaaGreatDoor
open Go.RowKit Pl
theorem infoM:(Tryz.prog.info? 65).map (·.size)=some 3:=by kernel_rfl
theorem RdR.grew {w w':World} {sz:Nat} {v:Value} {rows:List (List Value)} (h:RdR w w.heap.size sz v rows) (g:Grew w w'):RdR w' w'.heap.size sz v rows:=h.keep (Nat.le_refl _) g.size g (fun _ _ h=>h)
theorem RdR.at_ {w:World} {B sz:Nat} {A:Option Addr} {n c j:Nat} {rows:List (List Value)} {cs:List Value} (h:RdR w B sz (.slice A n c) rows) (hj:rows[j]? =some cs):∃b o,A=some ⟨b,o,none⟩∧w.rangeAt b (o+j*sz) cs:=by
 obtain⟨A',c',hv,hc,hx⟩:=h;injection hv with e1 e2 e3;subst e1;obtain⟨b,o,e, -,hcell⟩:=hx (by have:=(List.getElem?_eq_some_iff.1 hj).1;omega);exact⟨b,o,e,hcell j cs hj⟩
theorem RdR.slice {w:World} {B sz:Nat} {v:Value} {rows:List (List Value)} (h:RdR w B sz v rows):∃A c,v= .slice A rows.length c∧rows.length≤c:=by
 obtain⟨A,c,hv,hc, -⟩:=h;exact⟨A,c,hv,hc⟩
theorem nodes_eq (e:Ex):nodesE e=1+nodesKs e.kids:=by
 cases e;rw[nodesE];rfl
theorem kids_len_le:∀es:List Ex,es.length≤nodesKs es
 |[]=>by simp
 |e::es=>by
  have h1:=kids_len_le es;have h2:=nodes_pos e;unfold nodesKs;rw[List.length_cons];omega
theorem infoX:(Tryz.prog.info? 34).map (·.size)=some 11:=by kernel_rfl
theorem Grew.alloc {w0 w:World} (h:Grew w0 w) (o:Obj):Grew w0 (w.alloc o):=Keeps.alloc h o
theorem Grew.drew {w0 w:World} (h:Grew w0 w):Grew w0 w.drew:=Keeps.drew h
theorem Grew.drewN {w0 w:World} (h:Grew w0 w) (n:Nat):Grew w0 (w.drewN n):=Keeps.drewN h n
theorem Mine.slice {w:World} {base:Nat} {e:TypeId} {v:Value} {xs:List Value} (h:Mine w base e v xs):∃A n c,v= .slice A n c∧n=xs.length:=by
 rcases h.form with⟨rfl,rfl⟩|⟨g,cap,cur,rfl,_⟩
 ·exact⟨_,_,_,rfl,rfl⟩
 exact⟨_,_,_,rfl,rfl⟩
theorem Mine.cellAt {w:World} {base:Nat} {e:TypeId} {r n c:Nat} {xs:List Value} (h:Mine w base e (.slice (some ⟨r,0,none⟩) n c) xs) {j:Nat} (hj:j<xs.length):w.cell? ⟨r,j,none⟩=some xs[j]:=by
 rcases h.form with⟨h,_⟩|⟨g,cap,cur,hv,_,hb,_,_,_,h4⟩
 ·cases h
 injection hv with hv _ _;injection hv with hv;injection hv with hv _ _;subst hv;rw[hb.cell,←Array.getElem?_toList];have:(cur.toList.take xs.length)[j]? =some xs[j]:=by rw[h4];exact List.getElem?_eq_getElem hj
 rw[List.getElem?_take,if_pos hj]at this;exact this
theorem Mine.len {w:World} {base:Nat} {e:TypeId} {A:Option Addr} {n c:Nat} {xs:List Value} (h:Mine w base e (.slice A n c) xs):n=xs.length:=by
 rcases h.form with⟨h1,rfl⟩|⟨g,cap,cur,hv,_⟩
 ·injection h1
 injection hv
theorem Grew.store {w0 w:World} {e:TypeId} {r n c:Nat} {xs:List Value} (h:Grew w0 w) (hm:Mine w w0.heap.size e (.slice (some ⟨r,0,none⟩) n c) xs) (j:Nat) (u:Value):Grew w0 (w.setCell ⟨r,j,none⟩ u):=
 Keeps.setCell h (.inr (hm.lt r rfl).1) u
def KeepsR (g:Nat) (w w':World):Prop:=Keeps (fun i=>i=g) w w'
theorem KeepsR.trans {g:Nat} {a b c:World} (h:KeepsR g a b) (k:KeepsR g b c):KeepsR g a c:=Keeps.trans h k
theorem KeepsR.refl (g:Nat) (w:World):KeepsR g w w:=Keeps.refl _ _
theorem KeepsR.set (g:Nat) (w:World) (i:Nat) (u:Value):KeepsR g w (w.setCell ⟨g,i,none⟩ u):=(Keeps.refl (fun i=>i=g) w).setCell (p:=⟨g,i,none⟩) (.inl rfl) u
theorem KeepsR.drewN {g:Nat} {w w':World} (h:KeepsR g w w') (n:Nat):KeepsR g w (w'.drewN n):=Keeps.drewN h n
theorem KeepsR.drew {g:Nat} {w w':World} (h:KeepsR g w w'):KeepsR g w w'.drew:=Keeps.drew h
def Ones (most:Nat) (s:List Bool) (j:Nat) (t:List Bool):Prop:=j≤most∧ones most s=(ones (most-j) t).map fun p=>(p.1+j,p.2)
theorem Ones.start (most:Nat) (s:List Bool):Ones most s 0 s:=⟨by omega,by cases h:ones most s<;>simp⟩
theorem Ones.nil {most j:Nat} {s:List Bool} (h:Ones most s j []):ones most s=none:=by
 rw[h.2];cases(most-j)<;>rfl
theorem Ones.stop {most j:Nat} {s t:List Bool} (h:Ones most s j (false::t)):ones most s=some (j,t):=by
 rw[h.2];cases(most-j)<;>simp[ones]
theorem Ones.more {most j:Nat} {s t:List Bool} (h:Ones most s j (true::t)) (hj:j<most):Ones most s (j+1) t:=by
 refine⟨by omega,?_⟩;rw[h.2];obtain⟨m,hm⟩:∃m,most-j=m+1:=⟨most-j-1,by omega⟩;rw[hm,show most-(j+1)=m by omega,ones];cases ones m t with
 |none=>rfl
 |some p=>simp[Nat.add_assoc,Nat.add_comm 1 j]
end Go.Proofs.YtcimmbhdcebehaaGreatDoor
namespace Go.Proofs.YtcimmbhdcebehaaGreatDoor
open Go.RowKit Go.Shelf Pl
attribute [local go_sem] Oper.semAt_some
def accStep (bs:List Nat) (a:Nat) (n:Nat) (p:Fin 64×Nat):Nat:=if bitAt bs (a+p.2)then n|||2^p.1.val else n
def acc (bs:List Nat) (a:Nat) (pre:List (Fin 64)):Nat:=pre.zipIdx.foldl (accStep bs a) 0
end Go.Proofs.YtcimmbhdcebehaaGreatDoor
namespace Go.Proofs.YtcimmbhdcebehaaGreatDoor
open Go.RowKit Pl
def Rest (N:Nat) (t0:List Bool) (j:Nat) (be la:Int) (s:List Bool) (acc:List Int):Prop:=
 j≤N∧reads N 0 0 t0=(reads (N-j) be la s).map fun p=>(acc++p.1,p.2)
theorem Rest.start (N:Nat) (t0:List Bool):Rest N t0 0 0 0 t0 []:=⟨by omega,by cases reads N 0 0 t0<;>simp⟩
theorem Rest.step {N j:Nat} {t0 s t:List Bool} {be la d:Int} {acc:List Int} (h:Rest N t0 j be la s acc) (hj:j<N) (hp:parse s=some (d,t)):Rest N t0 (j+1) la (wrap64 (d+2*la-be)) t (acc++[wrap64 (d+2*la-be)]):=by
 refine⟨by omega,?_⟩;rw[h.2];obtain⟨m,hm⟩:∃m,N-j=m+1:=⟨N-j-1,by omega⟩;rw[hm,show N-(j+1)=m by omega];simp only[reads,hp];cases reads m la (wrap64 (d+2*la-be)) t<;>simp
theorem Rest.fail {N j:Nat} {t0 s:List Bool} {be la:Int} {acc:List Int} (h:Rest N t0 j be la s acc) (hj:j<N) (hp:parse s=none):reads N 0 0 t0=none:=by
 rw[h.2];obtain⟨m,hm⟩:∃m,N-j=m+1:=⟨N-j-1,by omega⟩;rw[hm];simp only[reads,hp];rfl
theorem Rest.done {N:Nat} {t0 s:List Bool} {be la:Int} {acc:List Int} (h:Rest N t0 N be la s acc):reads N 0 0 t0=some (acc,s):=by
 rw[h.2,Nat.sub_self];simp[reads]
theorem KeepsR.grew {g:Nat} {a w w':World} (h:KeepsR g a w) (k:Grew w w'):KeepsR g a w':=Keeps.grew h k
end Go.Proofs.YtcimmbhdcebehaaGreatDoor
namespace Go.Proofs.YtcimmbhdcebehaaGreatDoor
open Go.RowKit Pl Go.Maps
abbrev Str:=List UInt8
def vs (s:Str):Value:= .string ⟨s.toArray⟩
def DMap (D:DataW Unit) (ws:List Str):Prop:=
 IsMap D∧∀s:Str,Maps.has D (.string s)=decide (s∈ws)∧(s∈ws→∀z,D.atKey (.string s) z= .lit (.int .i64 ((ws.idxOf s:Nat):Int)))
theorem bytes_ne {s x:Str} (h:x≠s):(Lit.string x)≠.string s:=by
 intro e;injection e with e;exact h e
theorem DMap.put {D:DataW Unit} {ws:List Str} (h:DMap D ws) {s:Str} (hs:¬s∈ws):DMap (D.put (.string s) (.lit (.int .i64 (ws.length:Nat)))) (ws++[s]):=by
 refine⟨h.1.put _ _,fun x=>?_⟩;by_cases e:x=s
 ·subst e;refine⟨?_,fun _ z=>?_⟩
  ·rw[has_put_same h.1 (by trivial)];simp
  rw[atKey_put_same h.1 (by trivial),List.idxOf_append,if_neg hs];simp
 refine⟨?_,fun hx z=>?_⟩
 ·rw[has_put_other (bytes_ne e),(h.2 x).1];simp[e]
 have hx':x∈ws:=by simpa[e]using hx
 rw[atKey_put_other (bytes_ne e),(h.2 x).2 hx' z,List.idxOf_append,if_pos hx']
end Go.Proofs.YtcimmbhdcebehaaGreatDoor
namespace Go.Proofs.YtcimmbhdcebehaaGreatDoor
open Go.RowKit Pl
mutual
def tidyE:Ex→Prop
 | .mk _ _ _ _ _ _ _ _ ms bys kids=>ms.length≤1000000∧bys.length≤1000000∧tidyKs kids
def tidyKs:List Ex→Prop
 |[]=>True
 |e::es=>tidyE e∧tidyKs es
end
theorem tidyKs_mem:∀{es:List Ex} {e:Ex},tidyKs es→e∈es→tidyE e
 |a::tl,e,h,hm=>by
  unfold tidyKs at h;rcases List.mem_cons.1 hm with rfl|hm
  ·exact h.1
  exact tidyKs_mem h.2 hm
theorem tidyE_open {e:Ex} (h:tidyE e):e.ms.length≤1000000∧e.bys.length≤1000000∧tidyKs e.kids:=by
 cases e;unfold tidyE at h;exact h
theorem ldO {P:Program} {ops:Array Oper} {rest:List Oper} {o:Oper} {a:Act} {w:World} {Q:Exit→Act→World→Prop} (T:TypeId) (x:Operand) (ho:o.op= .load T x) (hw:Region.wanted o (yielded ops a.tmps)=true) {d:TypeDesc} (hu:P.underlying T=some d) (hd:d.isRow=true) (g k:Nat) (vs:List Value) (hT:(P.info? T).map (·.size)=some vs.length)
  (hx:a.eval x= .pointer (some ⟨g,k,none⟩)) (hr:w.rangeAt g k vs) (h:wpList P ops Q rest (a.put o.dst (.agg vs.toArray)) w):wpList P ops Q (o::rest) a w:=
 wpList_step fun K hK=>by rw[if_pos hw];exact wp_load_mid T x ho g k hx vs d hr hu hd hT (hK _ _ h)
def hasB (ls:List ByteArray) (s:ByteArray):Bool:=ls.any fun a=>a.toList==s.toList
def FindPost (ls:List ByteArray) (s:ByteArray) (w:World) (e:Ending) (w':World):Prop:=∃r:Int,e= .returned (.int .i64 r)∧decide (0≤r)=hasB ls s∧w'=w
theorem any_yes {ls:List ByteArray} {s a:ByteArray} {j:Nat} (h:ls[j]? =some a) (he:(a.toList==s.toList)=true):hasB ls s=true:=List.any_eq_true.2 ⟨a,List.mem_of_getElem? h,he⟩
theorem any_no {ls:List ByteArray} {s:ByteArray} (h:∀(i:Nat) (a:ByteArray),ls[i]? =some a→(a.toList==s.toList)=false):hasB ls s=false:=by
 unfold hasB;rw[List.any_eq_false];intro a ha;obtain⟨i,hi⟩:=List.getElem?_of_mem ha;rw[h i a hi];simp
theorem index_any (v:Value) (ls:List ByteArray) (s:ByteArray) (w:World) (h:RdR w w.heap.size 1 v (ls.map fun s=>[Value.string s])) (hl:ls.length≤1000000):Calls Tryz.prog 101 #[v,.string s] w (FindPost ls s w):=by
 obtain⟨A,c,rfl,hc,hx⟩:=h;rw[List.length_map]at hc hx ⊢;obtain⟨n,hn⟩:∃n,ls.length=n:=⟨_,rfl⟩;rw[hn]at hc hx hl ⊢;have HN:=Lib.hid hn;have HX:=Lib.hid hx;clear hn hx;go_enter Tryz.func101,Tryz.ntmps101;go_wp2_with fail;go_loopw [5,8] (fun _ i wr=>∃(j:Nat),j≤n∧(i= .int .i64 (j:Nat)∧w=wr)∧∀(i:Nat) (a:ByteArray),i<j→ls[i]? =some a→(a.toList==s.toList)=false) (fun _ i _=>n-(intOf i).toNat)
 case atStart=>exact⟨0,by omega,⟨rfl,rfl⟩,fun i a h _=>by omega⟩
 case round=>
  obtain⟨j,hj,⟨rfl,rfl⟩,hinv⟩:=hrel;have HI:=Lib.hid hinv;clear hinv;by_cases hlt:j<n
  ·obtain⟨b,o,rfl,hb,hcell⟩:=HX.out (by omega);obtain⟨a,ha⟩:∃a,ls[j]? =some a:=⟨_,List.getElem?_eq_getElem (by rw[HN.out];exact hlt)⟩;have hcl:w.cell? ⟨b,o+j,none⟩=some (.string a):=by
    have:=hcell j [.string a] (by rw[List.getElem?_map,ha];rfl) 0 _ rfl;rw[Nat.mul_one]at this;exact this
   have HA:=Lib.hid ha;clear ha hcell;by_cases he:a.toList=s.toList
   ·have t1:(a.toList==s.toList)=true:=by rw[beq_iff_eq];exact he
    have t2:(s.toList==a.toList)=true:=by rw[beq_iff_eq];exact he.symm
    have HF:=Lib.hid (any_yes HA.out t1);clear he;go_wp2_with fail;go_ret;exact⟨_,rfl,by rw[HF.out];simp,rfl⟩
   have t1:(a.toList==s.toList)=false:=by rw[beq_eq_false_iff_ne];exact he
   have t2:(s.toList==a.toList)=false:=by rw[beq_eq_false_iff_ne];exact fun h=>he h.symm
   have HC:=Lib.hid (show ∀(i:Nat) (a:ByteArray),i<j+1→ls[i]? =some a→(a.toList==s.toList)=false from fun i a' hi ha'=>by
    by_cases hij:i=j
    ·subst hij;rw[HA.out]at ha';obtain rfl:=Option.some.inj ha';exact t1
    exact HI.out i a' (by omega) ha')
   clear he;go_wp2_with fail;go_roundw
   case rel=>exact⟨j+1,by omega,⟨by go_num,by simp⟩,HC.out⟩
   case measure=>simp[intOf];omega
  have HF:=Lib.hid (any_no (ls:=ls) (s:=s) fun i a h=>HI.out i a (by have:=(List.getElem?_eq_some_iff.1 h).1;have:=HN.out;omega) h);obtain rfl:j=n:=by omega
  go_wp2_with fail;go_ret;exact⟨_,rfl,by rw[HF.out];rfl,rfl⟩
theorem contains_any (v:Value) (ls:List ByteArray) (s:ByteArray) (w:World) (h:RdR w w.heap.size 1 v (ls.map fun s=>[Value.string s])) (hl:ls.length≤1000000):Calls Tryz.prog 90 #[v,.string s] w fun e' w'=>e'= .returned (.bool (hasB ls s))∧w'=w:=by
 have HI:=Lib.hid (index_any v ls s w h hl);clear h hl;go_enter Tryz.func90,Tryz.ntmps90;go_wp2_with(go_at_call 101;refine HI.out.mono ?_;rintro e w2 ⟨r,rfl,hr,rfl⟩;have HR:=Lib.hid hr;clear hr);go_ret;exact⟨by rw[←HR.out];rfl,rfl⟩
end Go.Proofs.YtcimmbhdcebehaaGreatDoor
