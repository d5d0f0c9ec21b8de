/- What the card of the law stands on: Kit, App, Plain, Bit, Pos, WBits, WUnary, Ints, Write, CInts, Door, DoorR, LexPl, Tree, TreePl, BinE, NatPl, BoxN, Same. -/
import Derived.WalkKit
import Derived.Laws.OwnMore
import Derived.Deep.Draws
import Derived.Deep.AppendLies
import Derived.Maps.AppendAt
import Derived.Lib.Hide
import Derived.KernelRfl
import Derived.Test.YtcimmbhdcebehaaGreatDoorProg
import Derived.BigRegion
import Derived.RangeFuncNested
import Derived.RangeFuncBound
import Derived.RangeFuncCalls
import Derived.RangeFuncLeaves
import Derived.Shelf.Abstract
import Derived.Shelf.RegionOpen
import Derived.OwnWalkIn
import Derived.TacticsInMore
import Derived.LoopNIn
import Derived.LoopIn
import Derived.WalkSpells
import Derived.IntWalk
import Derived.Test.YtcimmbhdcebehaaGreatDoorCards
import Derived.Test.YtcimmbhdcebehaaGreatDoorTie
import Derived.ProofKit
import Derived.OpenShut
import Derived.ShutString
import Derived.ChangeOld
import Derived.Below
import Derived.Deep.DeepHandedRow
import Derived.Lib.LaidTab
import Derived.SizedLaws
import Derived.Deep.MidRow
import Derived.Deep.QuietTactic
import Derived.BigQuiet
set_option maxRecDepth 100000
set_option maxHeartbeats 12800000
set_option linter.unusedVariables false
set_option linter.unusedSimpArgs false
namespace Go.Proofs.YtcimmbhdcebehaaGreatDoor
open Go.RowKit
structure Keeps (S:Nat→Prop) (w w':World):Prop where
 os:w'.os=w.os
 tape:w'.tape=w.tape
 output:w'.output=w.output
 size:w.heap.size≤w'.heap.size
 block:∀k,k<w.heap.size→¬S k→w'.heap[k]? =w.heap[k]?
section
variable {S S':Nat→Prop} {a w w':World}
theorem Keeps.refl (S:Nat→Prop) (w:World):Keeps S w w:=⟨rfl,rfl,rfl,Nat.le_refl _,fun _ _ _=>rfl⟩
theorem Keeps.then_ (h:Keeps S a w) (k:Keeps S' w w') (hs:∀i,i<a.heap.size→S' i→S i):Keeps S a w':=
 ⟨k.os.trans h.os,k.tape.trans h.tape,k.output.trans h.output,Nat.le_trans h.size k.size,
  fun i hi hn=>(k.block i (Nat.lt_of_lt_of_le hi h.size) (fun e=>hn (hs i hi e))).trans (h.block i hi hn)⟩
theorem Keeps.trans (h:Keeps S a w) (k:Keeps S w w'):Keeps S a w':=h.then_ k fun _ _ e=>e
theorem Keeps.mono (h:Keeps S w w') (hs:∀i,i<w.heap.size→S i→S' i):Keeps S' w w':=
 ⟨h.os,h.tape,h.output,h.size,fun i hi hn=>h.block i hi fun e=>hn (hs i hi e)⟩
theorem Keeps.drew (h:Keeps S a w):Keeps S a w.drew:=⟨h.os,h.tape,h.output,h.size,h.block⟩
theorem Keeps.drewN (h:Keeps S a w) (n:Nat):Keeps S a (w.drewN n):=⟨h.os,h.tape,h.output,h.size,h.block⟩
theorem Keeps.alloc (h:Keeps S a w) (o:Obj):Keeps S a (w.alloc o):=
 ⟨h.os,h.tape,h.output,Nat.le_trans h.size (by simp),fun i hi hn=>(Below.heap_alloc w o i (Nat.lt_of_lt_of_le hi h.size)).trans (h.block i hi hn)⟩
theorem Keeps.setCell (h:Keeps S a w) {p:Addr} (hp:S p.block∨a.heap.size≤p.block) (u:Value):Keeps S a (w.setCell p u):=
 ⟨h.os,h.tape,h.output,by simpa[World.setCell]using h.size,fun i hi hn=>(Below.heap_setCell w p u i (by
  rintro rfl;rcases hp with hp|hp
  ·exact hn hp
  omega)).trans (h.block i hi hn)⟩
theorem Keeps.grown (h:Keeps S a w) {row:Option Nat} (hg:w.grownBy w' row) (hr:∀k,row=some k→k<a.heap.size→S k):Keeps S a w':=
 h.then_ (S':=fun i=>row=some i) ⟨hg.os,hg.tape,hg.output,hg.size,fun i hi hn=>hg.block i hi fun e=>hn e.symm⟩ (fun i hi e=>hr i e hi)
theorem Keeps.below (h:Keeps S w w') {B:Nat} (hB:B≤w.heap.size) (hs:∀i,S i→B≤i):Below B w w':=
 ⟨h.os,h.tape,h.output,h.size,fun i hi=>h.block i (by omega) fun e=>by have:=hs i e;omega⟩
def Grew (w w':World):Prop:=Keeps (fun _=>False) w w'
theorem Grew.below (h:Grew w w'):Below w.heap.size w w':=Keeps.below h (Nat.le_refl _) (fun _ e=>e.elim)
theorem Grew.refl (w:World):Grew w w:=Keeps.refl _ _
theorem Grew.trans (h:Grew a w) (k:Grew w w'):Grew a w':=Keeps.trans h k
theorem Keeps.grew (h:Keeps S a w) (k:Grew w w'):Keeps S a w':=h.then_ k fun _ _ e=>e.elim
theorem Grew.keeps (k:Grew a w):Keeps S a w:=Keeps.mono k fun _ _ e=>e.elim
end
def Box (w:World) (g:Nat) (t:TypeId) (cs:Array Value):Prop:=w.heap[g]? =some (.cells cs t (0,0))
section
variable {w w':World} {g:Nat} {t:TypeId} {cs:Array Value} {S:Nat→Prop}
theorem Box.lt (h:Box w g t cs):g<w.heap.size:=by
 rcases Nat.lt_or_ge g w.heap.size with hlt|hge
 ·exact hlt
 unfold Box at h;rw[Array.getElem?_eq_none hge]at h;cases h
theorem Box.cell (h:Box w g t cs) (i:Nat):w.cell? ⟨g,i,none⟩=cs[i]? :=by unfold Box at h;simp[World.cell?,h]
theorem Box.frozen (h:Box w g t cs) (i:Nat):w.frozen? ⟨g,i,none⟩=false:=by unfold Box at h;simp[World.frozen?,h]
theorem Box.new (w:World) (t:TypeId) (cs:Array Value):Box (w.alloc (.cells cs t)) w.heap.size t cs:=by
 unfold Box;show(w.heap.push _)[w.heap.size]? =_;simp
theorem Box.keep (h:Box w g t cs) (hk:Keeps S w w') (hg:¬S g):Box w' g t cs:=(hk.block g h.lt hg).trans h
theorem Box.grew (h:Box w g t cs) (hk:Grew w w'):Box w' g t cs:=h.keep hk fun e=>e
theorem Box.drew (h:Box w g t cs):Box w.drew g t cs:=h
theorem Box.drewN (h:Box w g t cs) (n:Nat):Box (w.drewN n) g t cs:=h
theorem Box.alloc (h:Box w g t cs) (o:Obj):Box (w.alloc o) g t cs:=(Below.heap_alloc w o g h.lt).trans h
theorem Box.set_ (h:Box w g t cs) (i:Nat) (u:Value):Box (w.setCell ⟨g,i,none⟩ u) g t (cs.setIfInBounds i u):=by
 unfold Box at h ⊢;simp[World.setCell,Array.getElem?_modify,h]
theorem Box.far (h:Box w g t cs) {p:Addr} (hp:g≠p.block) (u:Value):Box (w.setCell p u) g t cs:=(Below.heap_setCell w p u g hp).trans h
theorem Box.ne_ {g':Nat} {t':TypeId} {cs':Array Value} (h:Box w g t cs) (h':Box w g' t' cs') (hne:t≠t'):g≠g':=by
 rintro rfl;unfold Box at h h';rw[h]at h';injection h' with h';injection h' with _ ht;exact hne ht
end
def Mine (w:World) (base:Nat) (e:TypeId) (v:Value) (xs:List Value):Prop:=w.ownsRow base e 1 v xs.length xs
section
variable {w w':World} {base:Nat} {e:TypeId} {v:Value} {xs:List Value} {S:Nat→Prop}
theorem Mine.nil (w:World) (base:Nat) (e:TypeId):Mine w base e (.slice none 0 0) []:=World.ownsRow_nil _ _ _ _
theorem Mine.lt (h:Mine w base e v xs):∀k,v.ownBlock=some k→base≤k∧k<w.heap.size:=World.ownsRow.lt h
theorem Mine.keep (h:Mine w base e v xs) (hk:Keeps S w w') (hv:∀k,v.ownBlock=some k→¬S k):Mine w' base e v xs:=by
 obtain⟨h1,h2⟩:=h;refine⟨h1,?_⟩;rcases h2 with h2|⟨g,cap,cur,rfl,hg,hh,r⟩
 ·exact .inl h2
 have hlt:g<w.heap.size:=by
  rcases Nat.lt_or_ge g w.heap.size with hlt|hge
  ·exact hlt
  rw[Array.getElem?_eq_none hge]at hh;cases hh
 exact .inr ⟨g,cap,cur,rfl,hg,(hk.block g hlt (hv g rfl)).trans hh,r⟩
theorem Mine.grew (h:Mine w base e v xs) (hk:Grew w w'):Mine w' base e v xs:=h.keep hk fun _ _ e=>e
theorem Mine.drew (h:Mine w base e v xs):Mine w.drew base e v xs:=h
theorem Mine.alloc (h:Mine w base e v xs) (o:Obj):Mine (w.alloc o) base e v xs:=World.ownsRow.alloc h o
theorem Mine.form (h:Mine w base e v xs):(v= .slice none 0 0∧xs=[])∨
  ∃g cap cur,v= .slice (some ⟨g,0,none⟩) xs.length cap∧base≤g∧Box w g e cur∧xs.length≤cap∧cap≤maxLen∧cur.size=cap∧cur.toList.take xs.length=xs:=by
 obtain⟨h1,h2⟩:=h;rcases h2 with⟨rfl,h2⟩|⟨g,cap,cur,rfl,hg,hh,h3,h4,h5,h6⟩
 ·exact .inl ⟨rfl,List.eq_nil_of_length_eq_zero h2⟩
 exact .inr ⟨g,cap,cur,rfl,hg,hh,h3,h4,by omega,by simpa using h6⟩
theorem Mine.mk' {g cap:Nat} {cur:Array Value} (hg:base≤g) (hb:Box w g e cur) (h1:xs.length≤cap) (h2:cap≤maxLen) (h3:cur.size=cap) (h4:cur.toList.take xs.length=xs):
  Mine w base e (.slice (some ⟨g,0,none⟩) xs.length cap) xs:=
 ⟨by simp,.inr ⟨g,cap,cur,rfl,hg,hb,h1,h2,by omega,by simpa using h4⟩⟩
theorem Mine.store (h:Mine w base e v xs) {g:Nat} (hg:v.ownBlock=some g) {i:Nat} (_:i<xs.length) (u:Value):
  Mine (w.setCell ⟨g,i,none⟩ u) base e v (xs.set i u):=by
 rcases h.form with⟨rfl,_⟩|⟨g',cap,cur,rfl,hb,hbox,h1,h2,h3,h4⟩
 ·cases hg
 have:g'=g:=by simpa[Value.ownBlock]using hg
 subst this;have hl:(xs.set i u).length=xs.length:=by simp
 rw[←hl];refine Mine.mk' (cur:=cur.setIfInBounds i u) hb (hbox.set_ i u) (by omega) h2 (by simpa using h3) ?_;rw[hl,Array.toList_setIfInBounds,List.take_set,h4]
end
theorem Mine.ne_box {w:World} {base:Nat} {e t:TypeId} {v:Value} {xs:List Value} {g k:Nat} {cs:Array Value} (h:Mine w base e v xs) (hv:v.ownBlock=some k) (hb:Box w g t cs) (hne:e≠t):k≠g:=by
 rcases h.form with⟨rfl,_⟩|⟨g',cap,cur,rfl,_,hbox,_⟩
 ·cases hv
 have:g'=k:=by simpa[Value.ownBlock]using hv
 subst this;exact hbox.ne_ hb hne
theorem Mine.far {w:World} {base:Nat} {e:TypeId} {v:Value} {xs:List Value} (h:Mine w base e v xs) {p:Addr} (hp:v.ownBlock≠some p.block) (u:Value):Mine (w.setCell p u) base e v xs:=
 h.keep (S:=fun i=>i=p.block) ((Keeps.refl (fun i=>i=p.block) w).setCell (p:=p) (.inl rfl) u) (fun k hk e=>by subst e;exact hp hk)
def Rd (w:World) (B:Nat) (v:Value) (xs:List Value):Prop:=
 ∃A c,v= .slice A xs.length c∧xs.length≤c∧(0<xs.length→∃ad,A=some ad∧ad.block<B∧∀j u,xs[j]? =some u→w.cell? (ad.add j)=some u)
section
variable {w w':World} {B B':Nat} {v:Value} {xs:List Value} {S:Nat→Prop}
theorem block_add (a:Addr) (n:Nat):(a.add n).block=a.block:=by unfold Addr.add;split<;>rfl
theorem Rd.keep (h:Rd w B v xs) (hB:B≤w.heap.size) (hk:Keeps S w w') (hs:∀i,i<B→¬S i):Rd w' B v xs:=by
 obtain⟨A,c,hv,hc,hx⟩:=h;refine⟨A,c,hv,hc,fun hn=>?_⟩;obtain⟨ad,e,hb,hcell⟩:=hx hn;refine⟨ad,e,hb,fun j u hu=>(World.cell?_of_block ?_).trans (hcell j u hu)⟩;rw[block_add];exact hk.block _ (by omega) (hs _ hb)
theorem Rd.grew (h:Rd w B v xs) (hB:B≤w.heap.size) (hk:Grew w w'):Rd w' B v xs:=h.keep hB hk fun _ _ e=>e
theorem Rd.more (h:Rd w B v xs) (hB:B≤B'):Rd w B' v xs:=by
 obtain⟨A,c,hv,hc,hx⟩:=h;refine⟨A,c,hv,hc,fun hn=>?_⟩;obtain⟨ad,e,hb,hcell⟩:=hx hn;exact⟨ad,e,by omega,hcell⟩
theorem Rd.form (h:Rd w B v xs):∃A n c,v= .slice A n c∧n=xs.length∧n≤c:=by
 obtain⟨A,c,rfl,hc,_⟩:=h;exact⟨A,_,c,rfl,rfl,hc⟩
theorem Rd.at_ {A:Option Addr} {n c j:Nat} (h:Rd w B (.slice A n c) xs) (hj:j<xs.length):∃ad u,A=some ad∧ad.block<B∧xs[j]? =some u∧w.cell? (ad.add j)=some u:=by
 obtain⟨A',c',hv,_,hx⟩:=h;injection hv with hA;subst hA;obtain⟨ad,rfl,hb,hc⟩:=hx (by omega);exact⟨ad,xs[j],rfl,hb,List.getElem?_eq_getElem hj,hc j _ (List.getElem?_eq_getElem hj)⟩
theorem Rd.alloc (h:Rd w B v xs) (hB:B≤w.heap.size) (o:Obj):Rd (w.alloc o) B v xs:=h.grew hB ((Keeps.refl _ w).alloc o)
theorem Rd.drew (h:Rd w B v xs):Rd w.drew B v xs:=h
theorem Mine.rd {base:Nat} {e:TypeId} (h:Mine w base e v xs):Rd w w.heap.size v xs:=by
 rcases h.form with⟨rfl,rfl⟩|⟨g,cap,cur,rfl,hb,hbox,h1,h2,h3,h4⟩
 ·exact⟨none,0,rfl,Nat.le_refl _,fun h=>absurd h (by simp)⟩
 refine⟨_,cap,rfl,h1,fun _=>⟨⟨g,0,none⟩,rfl,hbox.lt,fun j u hu=>?_⟩⟩;have hj:j<xs.length:=(List.getElem?_eq_some_iff.1 hu).1;have e1:(⟨g,0,none⟩:Addr).add j=⟨g,j,none⟩:=by unfold Addr.add;split<;>simp_all
 rw[e1,hbox.cell,←Array.getElem?_toList,←hu,←h4,List.getElem?_take,if_pos (by simpa[h4]using hj)]
end
structure SlT (P:Program) (t e:TypeId) (bytes:Nat) (z:Value):Prop where
 under:P.underlying t=some (.slice e)
 info:(P.info? e).map (fun i=>(i.zero,i.size,i.bytes))=some (some z,1,bytes)
 cells:z.cells.size=1
 small:bytes≤64
section
variable {P:Program} {t e:TypeId} {bytes:Nat} {z:Value} {w:World} {base:Nat} {v:Value} {xs:List Value}
theorem run_app (T:SlT P t e bytes z) (ty:TypeId) (hown:Mine w base e v xs) {B:Nat} {sv:Value} {ys:List Value} (hr:Rd w B sv ys) (h1:∀u∈ys,u.oneCell'=true)
  (hn:xs.length+ys.length≤1099511627776) (hbase:base≤w.heap.size):
  ∃v' w',(Builtin.append_ #[t,t] ty #[v,sv]).run P w= .ok v' w'∧Mine w' base e v' (xs++ys)∧Keeps (fun i=>v.ownBlock=some i) w w'∧
   (v'.ownBlock=v.ownBlock∨v'.ownBlock=some w.heap.size):=by
 obtain⟨i,hi,hz,hs,hby⟩:=info_parts T.info;obtain⟨A,c,rfl,hc,hx⟩:=hr;have hb64:=T.small;rcases A with _|ad
 ·have hy:ys=[]:=by
   rcases ys with _|⟨y,ys⟩
   ·rfl
   obtain⟨ad,h,_⟩:=hx (by simp);cases h
  subst hy;refine⟨v,w,?_,by simpa using hown,Keeps.refl _ _,.inl rfl⟩;rcases hown.2 with⟨rfl,h0⟩|⟨g,cap,cur,rfl,_,_,hnc,_⟩
  ·have:xs=[]:=List.eq_nil_of_length_eq_zero h0;subst this;simp[Builtin.append_,run_underlying T.under,sizeOf,typeInfo,hi,Builtin.lenOf,Builtin.firstCells]
  simp[Builtin.append_,run_underlying T.under,sizeOf,typeInfo,hi,Builtin.lenOf,Builtin.firstCells,hnc,storeCells]
 have hcells:∀j u,ys[j]? =some u→w.cell? (ad.add j)=some u:=by
  intro j u hu;rcases ys with _|⟨y,ys⟩
  ·simp at hu
  obtain⟨ad',h,_,hc⟩:=hx (by simp);injection h with h;subst h;exact hc j u hu
 have hm:(xs.length+ys.length)*bytes≤140737488355328:=by
  have:=Nat.mul_le_mul hn hb64;omega
 obtain⟨v',w',hrun,h2,h3,_,h5⟩:=run_append_own_at (P:=P) w base t ty e i z 1 bytes T.under hi hz hs hby T.cells (by decide) v xs.length xs hown ad ys.length c ys (by simp) hcells h1 (by unfold maxLen;omega) hm hbase;refine⟨v',w',hrun,?_,(Keeps.refl _ w).grown h3 (fun k e _=>e),h5⟩;unfold Mine;rw[List.length_append];exact h2
theorem app_any {ops:Array Oper} {rest:List Oper} {o:Oper} {a:Act} {Q:Exit→Act→World→Prop} (T:SlT P t e bytes z) (hgd:o.guard=none) (s x:Operand)
  (ho:o.op= .call { callee:= .builtin .append,args:=#[s,x],argTypes:=#[t,t] })
  (hs:a.eval s=v) (hown:Mine w base e v xs) {B:Nat} {sv:Value} {ys:List Value} (hx:a.eval x=sv) (hr:Rd w B sv ys) (h1:∀u∈ys,u.oneCell'=true)
  (hn:xs.length+ys.length≤1099511627776) (hbase:base≤w.heap.size)
  (h:∀A m cap w',(xs++ys).length=m→Mine w' base e (.slice A m cap) (xs++ys)→Keeps (fun i=>v.ownBlock=some i) w w'→
   ((Value.slice A m cap).ownBlock=v.ownBlock∨(Value.slice A m cap).ownBlock=some w.heap.size)→wpList P ops Q rest (a.put o.dst (.slice A m cap)) w'):wpList P ops Q (o::rest) a w:=by
 refine wpList_plain hgd fun K hK=>?_
 obtain⟨v',w',hrun,h2,h3,h4⟩:=run_app (P:=P) T o.type hown hr h1 hn hbase;unfold Oper.wp execOp;simp only[ho,resolve,invoke,builtin,Sem.run_bind,Sem.run_pure,Result.andThen_ok,List.map_toArray,List.map_cons,List.map_nil,hs,hx,hrun];rcases h2.form with⟨rfl,hh⟩|⟨g,cap,cur,rfl,_⟩
 ·rw[hh]at h2;exact hK _ _ (h none 0 0 w' (by rw[hh];rfl) (by rw[hh];exact h2) h3 h4)
 exact hK _ _ (h _ _ cap w' rfl h2 h3 h4)
theorem app_one {ops:Array Oper} {rest:List Oper} {o:Oper} {a:Act} {Q:Exit→Act→World→Prop} (T:SlT P t e bytes z) (hgd:o.guard=none) (s x:Operand)
  (ho:o.op= .call { callee:= .builtin .append,args:=#[s,x],argTypes:=#[t,t] })
  (hs:a.eval s=v) (hown:Mine w base e v xs) (g c:Nat) (u:Value) (hx:a.eval x= .slice (some ⟨g,0,none⟩) 1 c) (hc1:1≤c) (hg:g<w.heap.size) (hu:w.cell? ⟨g,0,none⟩=some u) (h1:u.oneCell'=true)
  (hn:xs.length<1099511627776) (hbase:base≤w.heap.size)
  (h:∀r cap w',Mine w' base e (.slice (some ⟨r,0,none⟩) (xs.length+1) cap) (xs++[u])→Keeps (fun i=>v.ownBlock=some i) w w'→
   (some r=v.ownBlock∨r=w.heap.size)→base≤r→r<w'.heap.size→wpList P ops Q rest (a.put o.dst (.slice (some ⟨r,0,none⟩) (xs.length+1) cap)) w'):wpList P ops Q (o::rest) a w:=by
 have hr:Rd w w.heap.size (.slice (some ⟨g,0,none⟩) 1 c) [u]:=by
  refine⟨_,c,rfl,hc1,fun _=>⟨_,rfl,hg,fun j u' hu'=>?_⟩⟩
  match j,hu' with
  |0,hu'=>simp at hu';subst hu';simpa[Addr.add]using hu
 refine app_any T hgd s x ho hs hown hx hr (by intro u' hu';simp at hu';subst hu';exact h1) (by simp;omega) hbase ?_;intro A m cap w' hm h2 h3 h4;rcases h2.form with⟨_,hh⟩|⟨g',cap',cur,hv,hb,hbox,_⟩
 ·simp at hh
 injection hv with hv1 hv2 hv3;subst hv1 hv2 hv3;simp only[List.length_append,List.length_singleton]at h2 h4 ⊢;refine h g' cap w' h2 h3 ?_ hb hbox.lt;rcases h4 with h4|h4
 ·exact .inl h4
 right;simpa[Value.ownBlock]using h4
end
end Go.Proofs.YtcimmbhdcebehaaGreatDoor
namespace Go.Proofs.YtcimmbhdcebehaaGreatDoor.Pl
def bitv (b:Bool) (k:Nat):Nat:=if b then 2^k else 0
def byteAt (s:List Bool) (j:Nat):Nat:=
 bitv (s.getD (8*j) false) 7+bitv (s.getD (8*j+1) false) 6+bitv (s.getD (8*j+2) false) 5+bitv (s.getD (8*j+3) false) 4+
 bitv (s.getD (8*j+4) false) 3+bitv (s.getD (8*j+5) false) 2+bitv (s.getD (8*j+6) false) 1+bitv (s.getD (8*j+7) false) 0
def pack (s:List Bool):List Nat:=(List.range ((s.length+7)/8)).map (byteAt s)
def bitAt (bs:List Nat) (k:Nat):Bool:=(bs.getD (k/8) 0).testBit (7-k%8)
def Bytes (bs:List Nat):Prop:=∀x∈bs,x<256
def I64 (n:Int):Prop:= -9223372036854775808≤n∧n≤9223372036854775807
def zig (n:Int):Nat:=if 0≤n then(2*n).toNat else(-2*n-1).toNat
def unzig (z:Nat):Int:=if z%2=0 then(z/2:Nat)else -((z/2:Nat):Int)-1
def width (i:Nat):Nat:=if i=0 then 0 else if i=1 then 4 else if i=2 then 8 else if i=3 then 16 else if i=4 then 32 else 64
def idx (z:Nat):Nat:=if z<1 then 0 else if z<16 then 1 else if z<256 then 2 else if z<65536 then 3 else if z<4294967296 then 4 else 5
def bin (z k:Nat):List Bool:=(List.range k).map fun i=>z.testBit (k-1-i)
def un (i:Nat):List Bool:=List.replicate i true++[false]
def code (n:Int):List Bool:=un (idx (zig n))++bin (zig n) (width (idx (zig n)))
def val (s:List Bool):Nat:=s.foldl (fun n b=>2*n+b.toNat) 0
def ones:Nat→List Bool→Option (Nat×List Bool)
 |_,[]=>none
 |_,false::t=>some (0,t)
 |0,true::_=>none
 |most+1,true::t=>(ones most t).map fun p=>(p.1+1,p.2)
def parse (s:List Bool):Option (Int×List Bool):=
 match ones 5 s with
 |none=>none
 |some (i,t)=>
  if t.length<width i then none
  else if 0<i∧val (t.take (width i))<2^width (i-1)then none
  else some (unzig (val (t.take (width i))),t.drop (width i))
end Go.Proofs.YtcimmbhdcebehaaGreatDoor.Pl
namespace Go.Proofs.YtcimmbhdcebehaaGreatDoor
open Go.RowKit Pl
def vb (x:Nat):Value:= .int .u8 x
theorem slU8:SlT Tryz.prog 46 5 1 (.int .u8 0):=⟨Tryz.underlying46,by kernel_rfl,rfl,by decide⟩
def Moved (w:World) (v v':Value):Prop:=∀k,v'.ownBlock=some k→v.ownBlock=some k∨w.heap.size≤k
theorem Moved.refl (w:World) (v:Value):Moved w v v:=fun _ h=> .inl h
theorem Moved.trans {w w1:World} {v v1 v2:Value} (h:Moved w v v1) (hw:w.heap.size≤w1.heap.size) (k:Moved w1 v1 v2):Moved w v v2:=fun i hi=>by
 rcases k i hi with k|k
 ·exact h i k
 exact .inr (by omega)
def KeepsW (g:Nat) (v:Value) (w w':World):Prop:=Keeps (fun i=>i=g∨v.ownBlock=some i) w w'
theorem KeepsW.trans {w w1 w2:World} {g:Nat} {v v1:Value} (h:KeepsW g v w w1) (hm:Moved w v v1) (k:KeepsW g v1 w1 w2):KeepsW g v w w2:=
 Keeps.then_ h k fun i hi e=>by
  rcases e with e|e
  ·exact .inl e
  rcases hm i e with e|e
  ·exact .inr e
  omega
end Go.Proofs.YtcimmbhdcebehaaGreatDoor
namespace Go.Proofs.YtcimmbhdcebehaaGreatDoor
open Go.RowKit Go.Shelf Pl
attribute [local go_sem] Oper.semAt_some
attribute [local go_sem] Oper.semAt_some
section
variable {W W':World} {row:Option Nat} {g:Nat} {t:TypeId} {cs:Array Value}
theorem Box.abides (h:Box W g t cs) (hg:W.grownBy W' row) (hr:∀r,row=some r→∃o:Obj,W.heap[r]? =some o∧o.isCells=false):Box W' g t cs:=by
 refine(hg.block g h.lt (fun e=>?_)).trans h;obtain⟨o,ho,hc⟩:=hr g e.symm;unfold Box at h;rw[h]at ho;injection ho with ho;subst ho;simp[Obj.isCells]at hc
theorem Mine.abides {base:Nat} {e:TypeId} {v:Value} {xs:List Value} (h:Mine W base e v xs) (hg:W.grownBy W' row) (hr:∀r,row=some r→∃o:Obj,W.heap[r]? =some o∧o.isCells=false):Mine W' base e v xs:=by
 rcases h.form with⟨rfl,rfl⟩|⟨g,cap,cur,rfl,hb,hbox,h1,h2,h3,h4⟩
 ·exact Mine.nil _ _ _
 exact Mine.mk' hb (hbox.abides hg hr) h1 h2 h3 h4
theorem Keeps.abides {S:Nat→Prop} {w:World} (h:Keeps S w W) (hg:W.grownBy W' row) {B:Nat} (hB:w.heap.size≤B) (hr:∀r,row=some r→B≤r):Keeps S w W':=
 h.grown hg fun k e hk=>absurd (hr k e) (by omega)
theorem Keeps.others {S:Nat→Prop} (h:Keeps S W W') (hs:∀i o,S i→W.heap[i]? =some o→o.isCells=true):KeepsOthers W W':=
 ⟨h.size,fun k o hk ho=>by
  have hlt:k<W.heap.size:=by
   rcases Nat.lt_or_ge k W.heap.size with h|h
   ·exact h
   rw[Array.getElem?_eq_none h]at hk;cases hk
  refine(h.block k hlt (fun e=>?_)).trans hk;have:=hs k o e hk;rw[ho]at this;cases this⟩
end
end Go.Proofs.YtcimmbhdcebehaaGreatDoor
namespace Go.Proofs.YtcimmbhdcebehaaGreatDoor
open Go.RowKit Pl
end Go.Proofs.YtcimmbhdcebehaaGreatDoor
namespace Go.Proofs.YtcimmbhdcebehaaGreatDoor.Pl
open Go.RowKit
def codes (l:List Int):List Bool:=l.flatMap code
def p1 (l:List Int) (j:Nat):Int:=(0::l).getD j 0
def p2 (l:List Int) (j:Nat):Int:=(0::0::l).getD j 0
def reads:Nat→Int→Int→List Bool→Option (List Int×List Bool)
 |0,_,_,s=>some ([],s)
 |k+1,b,a,s=>
  match parse s with
  |none=>none
  |some (d,t)=>(reads k a (wrap64 (d+2*a-b)) t).map fun p=>(wrap64 (d+2*a-b)::p.1,p.2)
def padded (r:List Bool):Prop:=r.length<8∧∀b∈r,b=false
instance (r:List Bool):Decidable (padded r):=by unfold padded;infer_instance
end Go.Proofs.YtcimmbhdcebehaaGreatDoor.Pl
namespace Go.Proofs.YtcimmbhdcebehaaGreatDoor
open Go.RowKit Pl
end Go.Proofs.YtcimmbhdcebehaaGreatDoor
namespace Go.Proofs.YtcimmbhdcebehaaGreatDoor
open Go.ChangeShapes Go.WideShapes Go.ChangeAt Go.RowKit Pl
open Go.ChangeMaps (open_string shut_string)
theorem own:ownKnob Tryz.prog.godebug=none:=by kernel_rfl
theorem cell_lt {w:World} {a:Addr} {v:Value} (h:w.cell? a=some v):a.block<w.heap.size:=by
 rcases Nat.lt_or_ge a.block w.heap.size with h1|h1
 ·exact h1
 simp[World.cell?,Array.getElem?_eq_none h1]at h
def relay (cs:Array Value):Obj→Obj
 | .cells _ t frozen=> .cells cs t frozen
 |o=>o
def IsRow (k:IntKind) (w:World) (a:Option Addr) (len cap:Nat) (zs:List Int):Prop:=
 (a=none∧len=0∧cap=0∧zs=[])∨
 ∃x,a=some x∧len≤cap∧cap≤maxLen∧zs.length=cap∧(∀i,i<zs.length→w.cell? (x.add i)=some (.int k (zs.getD i 0)))∧∀n∈zs,(Lit.int k n).wf=true
theorem i64_of_wf {n:Int} (h:(Lit.int .i64 n).wf=true):I64 n:=by
 simpa[Lit.wf,I64,IntKind.min,IntKind.max,IntKind.signed,IntKind.bits]using h
theorem u8_of_wf {n:Int} (h:(Lit.int .u8 n).wf=true):0≤n∧n<256:=by
 have:0≤n∧n≤255:=by simpa[Lit.wf,IntKind.min,IntKind.max,IntKind.signed,IntKind.bits]using h
 omega
theorem IsRow.rd_ {k:IntKind} {w:World} {a:Option Addr} {len cap:Nat} {zs:List Int} (h:IsRow k w a len cap zs):
  Rd w w.heap.size (.slice a len cap) ((zs.take len).map fun n=> .int k n):=by
 rcases h with⟨rfl,rfl,rfl,rfl⟩|⟨x,rfl,hl,_,hz,hc,_⟩
 ·exact⟨none,0,rfl,Nat.le_refl _,fun h=>absurd h (by simp)⟩
 have hn:((zs.take len).map fun n=>Value.int k n).length=len:=by simp;omega
 refine⟨some x,cap,by rw[hn],by rw[hn];exact hl,fun h0=>⟨x,rfl,?_,fun j u hu=>?_⟩⟩
 ·have:=cell_lt (hc 0 (by omega));rwa[block_add]at this
 have hj:j<len:=by rw[←hn];exact(List.getElem?_eq_some_iff.1 hu).1
 rw[hc j (by omega),←hu];have hjz:j<zs.length:=by omega
 simp[List.getD,hj,hjz]
theorem IsRow.bytes {w:World} {a:Option Addr} {len cap:Nat} {zs:List Int} (h:IsRow .u8 w a len cap zs):
  ∃bs:List Nat,Rd w w.heap.size (.slice a len cap) (bs.map vb)∧Bytes bs:=by
 have hw:∀x∈zs.take len,0≤x∧x<256:=by
  intro x hx;have hx:=List.mem_of_mem_take hx;rcases h with⟨_,_,_,rfl⟩|⟨_,_,_,_,_,_,hw⟩
  ·simp at hx
  exact u8_of_wf (hw x hx)
 refine⟨(zs.take len).map Int.toNat,?_,fun x hx=>?_⟩
 ·have:=h.rd_;have e:((zs.take len).map fun n=>Value.int .u8 n)=((zs.take len).map Int.toNat).map vb:=by
   rw[List.map_map];refine List.map_congr_left fun n hn=>?_
   have:=(hw n hn).1;simp[vb,Int.toNat_of_nonneg this]
  rwa[e]at this
 obtain⟨n,hn,rfl⟩:=List.mem_map.1 hx;have:=hw n hn;omega
end Go.Proofs.YtcimmbhdcebehaaGreatDoor
namespace Go.Proofs.YtcimmbhdcebehaaGreatDoor
open Go.RowKit
def chr (s:ByteArray) (i:Nat):Nat:=if h:i<s.size then(s[i]'h).toNat else 0
theorem chr_eq {s:ByteArray} {i b:Nat} (h:i<s.size) (hb:(s[i]'h).toNat=b):chr s i=b:=by unfold chr;rw[dif_pos h,hb]
def letC (c:Nat):Bool:=decide (97≤c∧c≤122)
def digC (c:Nat):Bool:=decide (48≤c∧c≤57)
def wrdC (c:Nat):Bool:=letC c||digC c||decide (c=95)
def runE (s:ByteArray) (p:Nat→Bool):Nat→Nat→Nat
 |0,i=>i
 |k+1,i=>if decide (i<s.size)&&p (chr s i)then runE s p k (i+1)else i
theorem runE_stop {s:ByteArray} {p:Nat→Bool} {k i:Nat} (h:¬(i<s.size∧p (chr s i)=true)):runE s p k i=i:=by
 cases k with
 |zero=>rfl
 |succ k=>
  unfold runE;rw[if_neg];intro hc;rw[Bool.and_eq_true,decide_eq_true_iff]at hc;exact h hc
theorem runE_step {s:ByteArray} {p:Nat→Bool} {i:Nat} (h1:i<s.size) (h2:p (chr s i)=true):runE s p (s.size-i) i=runE s p (s.size-(i+1)) (i+1):=by
 obtain⟨k,hk⟩:∃k,s.size-i=k+1:=⟨s.size-i-1,by omega⟩;rw[hk,show s.size-(i+1)=k by omega];rw[runE,if_pos (by rw[h2];simpa using h1)]
theorem runE_le {s:ByteArray} {p:Nat→Bool}:∀(k i:Nat),i≤s.size→i≤runE s p k i∧runE s p k i≤s.size
 |0,i,h=>⟨Nat.le_refl _,h⟩
 |k+1,i,h=>by
  unfold runE;by_cases hc:(decide (i<s.size)&&p (chr s i))=true
  ·rw[if_pos hc];rw[Bool.and_eq_true,decide_eq_true_iff]at hc;have:=runE_le (p:=p) k (i+1) (show i+1≤s.size by omega);omega
  rw[if_neg hc];exact⟨Nat.le_refl _,h⟩
theorem runE_lt {s:ByteArray} {p:Nat→Bool} {i:Nat} (h1:i<s.size) (h2:p (chr s i)=true):i<runE s p (s.size-i) i:=by
 rw[runE_step h1 h2];have:=(runE_le (s:=s) (p:=p) (s.size-(i+1)) (i+1) (by omega)).1;omega
theorem runE_all {s:ByteArray} {p:Nat→Bool}:∀(k i j:Nat),i≤j→j<runE s p k i→j<s.size∧p (chr s j)=true
 |0,i,j,h1,h2=>by
  have:runE s p 0 i=i:=rfl;omega
 |k+1,i,j,h1,h2=>by
  unfold runE at h2;by_cases hc:(decide (i<s.size)&&p (chr s i))=true
  ·rw[if_pos hc]at h2;rw[Bool.and_eq_true,decide_eq_true_iff]at hc;by_cases hij:i=j
   ·subst hij;exact hc
   exact runE_all k (i+1) j (by omega) h2
  rw[if_neg hc]at h2;omega
def numV (s:ByteArray) (i:Nat):Nat→Nat
 |0=>0
 |k+1=>numV s i k*10+(chr s (i+k)-48)
theorem numV_mono (s:ByteArray) (i:Nat):∀(j k:Nat),j≤k→numV s i j≤numV s i k
 |j,0,h=>by rw[show j=0 by omega];exact Nat.le_refl _
 |j,k+1,h=>by
  by_cases hj:j=k+1
  ·rw[hj];exact Nat.le_refl _
  have:=numV_mono s i j k (by omega);rw[show numV s i (k+1)=numV s i k*10+(chr s (i+k)-48)from rfl];omega
structure Tok where
 kind:Nat
 text:ByteArray
 num:Nat
 off:Nat
def Tok.cells (t:Tok):List Value:=[.int .i64 (t.kind:Nat),.string t.text,.int .i64 (t.num:Nat),.int .i64 (t.off:Nat)]
def symLen (s:ByteArray) (i:Nat):Nat:=
 if[43,45,42,47,40,41,123,125,44,46,64,61].contains (chr s i)then 1
 else if(chr s i=33∨chr s i=94)∧i+1<s.size∧chr s (i+1)=61 then 2 else 0
def tokAt (s:ByteArray) (i:Nat):Option (Tok×Nat):=
 if letC (chr s i)then
  if runE s wrdC (s.size-i) i-i≤16 then some (⟨0,s.extract i (runE s wrdC (s.size-i) i),0,i⟩,runE s wrdC (s.size-i) i)else none
 else if digC (chr s i)then
  if numV s i (runE s digC (s.size-i) i-i)≤1073741824 then some (⟨1,s.extract i (runE s digC (s.size-i) i),numV s i (runE s digC (s.size-i) i-i),i⟩,runE s digC (s.size-i) i)else none
 else if chr s i=34 then none
 else if symLen s i=0 then none else some (⟨3,s.extract i (i+symLen s i),0,i⟩,i+symLen s i)
def blank (c:Nat):Bool:=decide (c=9∨c=10∨c=13∨c=32)
def lexF (s:ByteArray):Nat→Nat→Option (List Tok)
 |0,_=>none
 |k+1,i=>
  if i<s.size then
   if blank (chr s i)then lexF s k (i+1)
   else match tokAt s i with
    |none=>none
    |some (t,j)=>match lexF s k j with
     |none=>none
     |some ts=>some (t::ts)
  else some []
abbrev Mt:=ByteArray×Int×ByteArray
inductive Ex where
 |mk (kind fn window offset k num den:Int) (name:ByteArray) (ms:List Mt) (bys:List ByteArray) (kids:List Ex)
namespace Ex
def kind:Ex→Int| .mk a _ _ _ _ _ _ _ _ _ _=>a
def fn:Ex→Int| .mk _ a _ _ _ _ _ _ _ _ _=>a
def window:Ex→Int| .mk _ _ a _ _ _ _ _ _ _ _=>a
def offset:Ex→Int| .mk _ _ _ a _ _ _ _ _ _ _=>a
def k:Ex→Int| .mk _ _ _ _ a _ _ _ _ _ _=>a
def num:Ex→Int| .mk _ _ _ _ _ a _ _ _ _ _=>a
def den:Ex→Int| .mk _ _ _ _ _ _ a _ _ _ _=>a
def name:Ex→ByteArray| .mk _ _ _ _ _ _ _ a _ _ _=>a
def ms:Ex→List Mt| .mk _ _ _ _ _ _ _ _ a _ _=>a
def bys:Ex→List ByteArray| .mk _ _ _ _ _ _ _ _ _ a _=>a
def kids:Ex→List Ex| .mk _ _ _ _ _ _ _ _ _ _ a=>a
end Ex
def cells11 (e:Ex) (vm vb vk:Value):List Value:=[.int .i64 e.kind,.int .i64 e.fn,.int .i64 e.window,.int .i64 e.offset,.int .i64 e.k,.int .i64 e.num,.int .i64 e.den,.string e.name,vm,vb,vk]
def RdR (w:World) (B sz:Nat) (v:Value) (rows:List (List Value)):Prop:=
 ∃A c,v= .slice A rows.length c∧rows.length≤c∧(0<rows.length→∃b o,A=some ⟨b,o,none⟩∧b<B∧∀j cs,rows[j]? =some cs→w.rangeAt b (o+j*sz) cs)
def mcells (m:Mt):List Value:=[.string m.1,.int .i64 m.2.1,.string m.2.2]
mutual
def RdE (w:World) (B:Nat):Ex→List Value→Prop
 | .mk kind fn window offset k num den name ms bys kids,cs=>∃vm vb vk,cs=cells11 (.mk kind fn window offset k num den name ms bys kids) vm vb vk∧RdR w B 3 vm (ms.map mcells)∧RdR w B 1 vb (bys.map fun s=>[Value.string s])∧
   ∃A c,vk= .slice A kids.length c∧kids.length≤c∧(0<kids.length→∃b o,A=some ⟨b,o,none⟩∧b<B∧RdKs w B b o kids)
def RdKs (w:World) (B b o:Nat):List Ex→Prop
 |[]=>True
 |e::es=>(∃cs,w.rangeAt b o cs∧RdE w B e cs)∧RdKs w B b (o+11) es
end
section
variable {w w':World} {B B':Nat}
theorem rangeAt_keep {S:Nat→Prop} {b o:Nat} {cs:List Value} (h:w.rangeAt b o cs) (hb:b<w.heap.size) (hk:Keeps S w w') (hs:¬S b):w'.rangeAt b o cs:=fun j u hu=>
 (World.cell?_of_block (a:=⟨b,o+j,none⟩) (hk.block b hb hs)).trans (h j u hu)
theorem RdR.keep {S:Nat→Prop} {sz:Nat} {v:Value} {rows:List (List Value)} (h:RdR w B sz v rows) (hB:B≤w.heap.size) (hB':B≤B') (hk:Keeps S w w') (hs:∀i,i<B→¬S i):RdR w' B' sz v rows:=by
 obtain⟨A,c,hv,hc,hx⟩:=h;refine⟨A,c,hv,hc,fun hn=>?_⟩;obtain⟨b,o,e,hb,hcell⟩:=hx hn;exact⟨b,o,e,by omega,fun j cs hj=>rangeAt_keep (hcell j cs hj) (by omega) hk (hs _ hb)⟩
mutual
theorem RdE.keep {S:Nat→Prop} (hB:B≤w.heap.size) (hB':B≤B') (hk:Keeps S w w') (hs:∀i,i<B→¬S i):∀(e:Ex) (cs:List Value),RdE w B e cs→RdE w' B' e cs
 | .mk kind fn window offset k num den name ms bys kids,cs,h=>by
  unfold RdE at h ⊢;obtain⟨vm,vb,vk,h1,h2,h3,A,c,h4,h5,h6⟩:=h;refine⟨vm,vb,vk,h1,h2.keep hB hB' hk hs,h3.keep hB hB' hk hs,A,c,h4,h5,fun hn=>?_⟩;obtain⟨b,o,e1,hb,hks⟩:=h6 hn;exact⟨b,o,e1,by omega,RdKs.keep hB hB' hk hs b hb kids o hks⟩
theorem RdKs.keep {S:Nat→Prop} (hB:B≤w.heap.size) (hB':B≤B') (hk:Keeps S w w') (hs:∀i,i<B→¬S i) (b:Nat) (hb:b<B):∀(es:List Ex) (o:Nat),RdKs w B b o es→RdKs w' B' b o es
 |[],_,_=>by unfold RdKs;trivial
 |e::es,o,h=>by
  unfold RdKs at h ⊢;obtain⟨⟨cs,h1,h2⟩,h3⟩:=h;exact⟨⟨cs,rangeAt_keep h1 (by omega) hk (hs _ hb),RdE.keep hB hB' hk hs e cs h2⟩,RdKs.keep hB hB' hk hs b hb es (o+11) h3⟩
end
theorem RdE.grew {e:Ex} {cs:List Value} (h:RdE w w.heap.size e cs) (g:Grew w w'):RdE w' w'.heap.size e cs:=RdE.keep (Nat.le_refl _) g.size g (fun _ _ h=>h) e cs h
theorem RdKs.at_ {b:Nat}:∀{es:List Ex} {o j:Nat} {e:Ex},RdKs w B b o es→es[j]? =some e→∃cs,w.rangeAt b (o+j*11) cs∧RdE w B e cs
 |e::es,o,0,e',h,hj=>by
  unfold RdKs at h;obtain rfl:e=e':=by simpa using hj
  simpa using h.1
 |e::es,o,j+1,e',h,hj=>by
  unfold RdKs at h;have:=RdKs.at_ (j:=j) h.2 (by simpa using hj);rwa[show o+11+j*11=o+(j+1)*11 by omega]at this
end
end Go.Proofs.YtcimmbhdcebehaaGreatDoor
namespace Go.Proofs.YtcimmbhdcebehaaGreatDoor
mutual
def nodesE:Ex→Nat
 | .mk _ _ _ _ _ _ _ _ _ _ kids=>1+nodesKs kids
def nodesKs:List Ex→Nat
 |[]=>0
 |e::es=>nodesE e+nodesKs es
end
mutual
def depthE:Ex→Nat
 | .mk _ _ _ _ _ _ _ _ _ _ kids=>depthKs kids+1
def depthKs:List Ex→Nat
 |[]=>0
 |e::es=>max (depthE e) (depthKs es)
end
mutual
def eqE:Ex→Ex→Bool
 | .mk k f w o q n d nm ms bs ks,.mk k' f' w' o' q' n' d' nm' ms' bs' ks'=>
  decide (k=k'∧f=f'∧w=w'∧o=o'∧q=q'∧n=n'∧d=d'∧nm=nm'∧ms=ms'∧bs=bs')&&eqKs ks ks'
def eqKs:List Ex→List Ex→Bool
 |[],[]=>true
 |a::ax,b::bs=>eqE a b&&eqKs ax bs
 |_,_=>false
end
mutual
theorem eqE_refl:∀e:Ex,eqE e e=true
 | .mk k f w o q n d nm ms bs ks=>by
  unfold eqE;rw[eqKs_refl ks];simp
theorem eqKs_refl:∀es:List Ex,eqKs es es=true
 |[]=>by unfold eqKs;rfl
 |e::es=>by
  unfold eqKs;rw[eqE_refl e,eqKs_refl es];rfl
end
def numE (n d:Int):Ex:= .mk 0 0 0 0 0 n d ⟨#[]⟩ [] [] []
theorem nodes_pos (e:Ex):1≤nodesE e:=by
 cases e;unfold nodesE;omega
theorem nodesKs_mem:∀{es:List Ex} {e:Ex},e∈es→nodesE e≤nodesKs es
 |a::ax,e,h=>by
  unfold nodesKs;rcases List.mem_cons.1 h with rfl|h
  ·omega
  have:=nodesKs_mem h;omega
def binE (f:Int) (a b:Ex):Ex:= .mk 3 f 0 0 0 0 0 ⟨#[]⟩ [] [] [a,b]
end Go.Proofs.YtcimmbhdcebehaaGreatDoor
namespace Go.Proofs.YtcimmbhdcebehaaGreatDoor
open Go.RowKit
theorem setCells_keeps (g:Nat):∀(vs:List Value) (o:Nat) (w:World),Keeps (fun i=>i=g) w (w.setCells g o vs)∧(w.setCells g o vs).drawn=w.drawn
 |[],_,w=>⟨Keeps.refl _ w,rfl⟩
 |v::r,o,w=>by
  have h:=setCells_keeps g r (o+1) (w.setCell ⟨g,o,none⟩ v);exact⟨((Keeps.refl (fun i=>i=g) w).setCell (p:=⟨g,o,none⟩) (.inl rfl) v).trans h.1,h.2⟩
theorem Box.putN {g:Nat} {t:TypeId}:∀(vs:List Value) {w:World} {us:List Value} (_:Box w g t us.toArray) (o:Nat) (_:o+vs.length≤us.length),Box (w.setCells g o vs) g t (us.take o++vs++us.drop (o+vs.length)).toArray
 |[],w,us,h,o,_=>by simpa[World.setCells]using h
 |v::r,w,us,h,o,hl=>by
  simp only[List.length_cons]at hl;have h1:=h.set_ o v;rw[List.setIfInBounds_toArray]at h1;have h2:=Box.putN r h1 (o+1) (by simp;omega);have e:(us.set o v).take (o+1)++r++(us.set o v).drop (o+1+r.length)=us.take o++v::r++us.drop (o+(v::r).length):=by
   rw[List.take_add_one,List.take_set_of_le (Nat.le_refl o),List.getElem?_set_self (by omega),List.drop_set_of_lt (by omega)];simp[Nat.add_assoc,Nat.add_comm 1]
  rw[e]at h2;exact h2
section
variable {P:Program} {w:World} {g:Nat} {t:TypeId} {us:List Value}
theorem Box.thereN (h:Box w g t us.toArray) (o n:Nat) (hn:o+n≤us.length):w.there g o n:=fun j hj=>by
 refine⟨?_,h.frozen _⟩;rw[h.cell];simp;omega
theorem Box.rangeN (h:Box w g t us.toArray) (o:Nat) (cs:List Value) (hc:(us.drop o).take cs.length=cs):w.rangeAt g o cs:=fun j u hu=>by
 rw[h.cell,List.getElem?_toArray];have hj:j<cs.length:=(List.getElem?_eq_some_iff.1 hu).1;rw[←hu,←hc,List.getElem?_take,if_pos hj,List.getElem?_drop]
variable {ops:Array Oper} {rest:List Oper} {o:Oper} {a:Act} {Q:Exit→Act→World→Prop}
theorem stN (T:TypeId) (x y:Operand) (g:Nat) (vs us:List Value) (t:TypeId) (hT:(P.info? T).map (·.size)=some vs.length) (hl:us.length=vs.length) (h1:∀v∈vs,v.oneCell'=true) (hgd:o.guard=none) (ho:o.op= .store T x y)
  (hx:a.eval x= .pointer (some ⟨g,0,none⟩)) (hy:a.eval y= .agg vs.toArray) (hb:Box w g t us.toArray)
  (h:∀w',Box w' g t vs.toArray→Keeps (fun i=>i=g) w w'→w'.drawn=w.drawn→wpList P ops Q rest (a.put o.dst undef) w'):wpList P ops Q (o::rest) a w:=by
 refine wpList_store_mid hgd T x y ho g 0 vs.toArray hx hy (by simpa using hb.thereN 0 vs.length (by omega)) (by simpa using hT) (all_oneCell_toArray h1) ?_;obtain⟨k1,k2⟩:=setCells_keeps g vs 0 w;have hp:=hb.putN vs 0 (by omega);have e:us.take 0++vs++us.drop (0+vs.length)=vs:=by simp[←hl]
 rw[e]at hp;exact h _ hp k1 k2
theorem ldN (T:TypeId) {d:TypeDesc} (hu:P.underlying T=some d) (hd:d.isRow=true) (x:Operand) (g:Nat) (vs:List Value) (t:TypeId) (hT:(P.info? T).map (·.size)=some vs.length) (hgd:o.guard=none) (ho:o.op= .load T x)
  (hx:a.eval x= .pointer (some ⟨g,0,none⟩)) (hb:Box w g t vs.toArray)
  (h:wpList P ops Q rest (a.put o.dst (.agg vs.toArray)) w):wpList P ops Q (o::rest) a w:=
 wpList_load_mid hgd T x ho g 0 hx vs _ (hb.rangeN 0 vs (by simp)) hu hd hT h
theorem at_load (T:TypeId) (x:Operand) (_:o.op= .load T x) (h:wpList P ops Q (o::rest) a w):wpList P ops Q (o::rest) a w:=h
theorem at_store (T:TypeId) (x y:Operand) (_:o.op= .store T x y) (h:wpList P ops Q (o::rest) a w):wpList P ops Q (o::rest) a w:=h
end
end Go.Proofs.YtcimmbhdcebehaaGreatDoor
namespace Go.Proofs.YtcimmbhdcebehaaGreatDoor
open Go.RowKit Pl
end Go.Proofs.YtcimmbhdcebehaaGreatDoor
