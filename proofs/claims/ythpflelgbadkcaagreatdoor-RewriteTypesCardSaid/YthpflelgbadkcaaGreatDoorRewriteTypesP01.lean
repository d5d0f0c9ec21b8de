/- What the card of the law stands on: Kit, App, Plain, Bit, Pos, WBits, WUnary, Ints, Write, CInts, Door, DoorR, LexPl, Tree, TreePl, BinE, NatPl, BoxN, Same. -/
import Derived.WalkKit
import Derived.Laws.OwnMore
import Derived.Deep.Draws
import Derived.Deep.AppendLies
import Derived.Maps.AppendAt
import Derived.Lib.Hide
import Derived.KernelRfl
import Derived.Test.YthpflelgbadkcaaGreatDoorProg
import Derived.BigRegion
import Derived.RangeFuncNested
import Derived.RangeFuncBound
import Derived.RangeFuncCalls
import Derived.RangeFuncLeaves
import Derived.Shelf.Abstract
import Derived.Shelf.RegionOpen
import Derived.OwnWalkIn
import Derived.TacticsInMore
import Derived.LoopNIn
import Derived.LoopIn
import Derived.WalkSpells
import Derived.IntWalk
import Derived.Test.YthpflelgbadkcaaGreatDoorCards
import Derived.Test.YthpflelgbadkcaaGreatDoorTie
import Derived.ProofKit
import Derived.OpenShut
import Derived.ShutString
import Derived.ChangeOld
import Derived.Below
import Derived.Deep.DeepHandedRow
import Derived.Lib.LaidTab
import Derived.SizedLaws
import Derived.Deep.MidRow
import Derived.Deep.QuietTactic
import Derived.BigQuiet
set_option maxRecDepth 100000
set_option maxHeartbeats 12800000
set_option linter.unusedVariables false
set_option linter.unusedSimpArgs false
namespace Go.Proofs.YthpflelgbadkcaaGreatDoor
theorem V3 {p:Prop} (h:p):Go.RowKit.Hid p:=Lib.hid h
theorem V4 {α:Type} [BEq α] [LawfulBEq α] {a b:α}:(a==b)=false↔a≠b:=beq_eq_false_iff_ne
theorem V5 {a b:Prop} (x:a) (y:b):a∧b:=And.intro x y
theorem V6 (n:Nat):n≤n:=Nat.le_refl n
theorem VA {n m k:Nat} (h:n<m) (i:m≤k):n<k:=Nat.lt_of_lt_of_le h i
theorem VB {α:Type} {l:List α} {i:Nat} (h:i<l.length):l[i]? =some l[i]:=List.getElem?_eq_getElem h
theorem VC {α:Type} [BEq α] [LawfulBEq α] {a b:α}:(a==b)=true↔a=b:=beq_iff_eq
theorem VD {n m k:Nat} (h:n≤m) (i:m≤k):n≤k:=Nat.le_trans h i
theorem VE {α:Type} {a b:α} (h:some a=some b):a=b:=Option.some.inj h
theorem VF {α:Type} {a b:α}:a∈[b]↔a=b:=List.mem_singleton
theorem VG {α:Type} {l:List α} {i:Nat} {a:α}:l[i]? =some a↔∃h:i<l.length,l[i]=a:=List.getElem?_eq_some_iff
theorem VH {p:Prop} [Decidable p] (h:decide p=true):p:=of_decide_eq_true h
theorem VI {p:Prop} [Decidable p] (h:¬p):decide p=false:=decide_eq_false h
theorem VJ {α:Type} {l:List α} {i:Nat} {a:α} (h:l[i]? =some a):a∈l:=List.mem_of_getElem? h
theorem VK {α:Type} {l:Array α} {i:Nat} {a:α}:l[i]? =some a↔∃h:i<l.size,l[i]=a:=Array.getElem?_eq_some_iff
theorem VL (n m:Nat):((n*m:Nat):Int)=(n:Int)*(m:Int):=Int.natCast_mul n m
theorem VM {c:Prop} [h:Decidable c] (hc:¬c) {α:Type} {t e:α}:ite c t e=e:=if_neg hc
theorem VN {c:Prop} [h:Decidable c] (hc:c) {α:Type} {t e:α}:ite c t e=t:=if_pos hc
theorem VO (n m:Nat):n*m=m*n:=Nat.mul_comm n m
theorem VP {α β:Type} (a:α) (b:β) (c:α) (d:β):((a,b)=(c,d))=(a=c∧b=d):=Prod.mk.injEq a b c d
theorem VQ {α:Type} (a b:α):(some a=some b)=(a=b):=Option.some.injEq a b
theorem VR {α:Type} {x y:List α}:(x++y).length=x.length+y.length:=List.length_append
theorem VT (n m k:Nat):n*m*k=n*(m*k):=Nat.mul_assoc n m k
end Go.Proofs.YthpflelgbadkcaaGreatDoor
namespace Go.Proofs.YthpflelgbadkcaaGreatDoor
open Go.RowKit
structure AA (S:Nat→Prop) (w w':World):Prop where
 os:w'.os=w.os
 tape:w'.tape=w.tape
 output:w'.output=w.output
 size:w.heap.size≤w'.heap.size
 block:∀k,k<w.heap.size→¬S k→w'.heap[k]? =w.heap[k]?
section
variable {S S':Nat→Prop} {a w w':World}
theorem AA.refl (S:Nat→Prop) (w:World):AA S w w:=⟨rfl,rfl,rfl,V6 _,fun _ _ _=>rfl⟩
theorem AA.then_ (h:AA S a w) (k:AA S' w w') (hs:∀i,i<a.heap.size→S' i→S i):AA S a w':=
 ⟨k.os.trans h.os,k.tape.trans h.tape,k.output.trans h.output,VD h.size k.size,
  fun i hi hn=>(k.block i (VA hi h.size) (fun e=>hn (hs i hi e))).trans (h.block i hi hn)⟩
theorem AA.trans (h:AA S a w) (k:AA S w w'):AA S a w':=h.then_ k fun _ _ e=>e
theorem AA.mono (h:AA S w w') (hs:∀i,i<w.heap.size→S i→S' i):AA S' w w':=
 ⟨h.os,h.tape,h.output,h.size,fun i hi hn=>h.block i hi fun e=>hn (hs i hi e)⟩
theorem AA.drew (h:AA S a w):AA S a w.drew:=⟨h.os,h.tape,h.output,h.size,h.block⟩
theorem AA.drewN (h:AA S a w) (n:Nat):AA S a (w.drewN n):=⟨h.os,h.tape,h.output,h.size,h.block⟩
theorem AA.alloc (h:AA S a w) (o:Obj):AA S a (w.alloc o):=
 ⟨h.os,h.tape,h.output,VD h.size (by simp),fun i hi hn=>(Below.heap_alloc w o i (VA hi h.size)).trans (h.block i hi hn)⟩
theorem AA.setCell (h:AA S a w) {p:Addr} (hp:S p.block∨a.heap.size≤p.block) (u:Value):AA S a (w.setCell p u):=
 ⟨h.os,h.tape,h.output,by simpa[World.setCell]using h.size,fun i hi hn=>(Below.heap_setCell w p u i (by
  rintro rfl;rcases hp with hp|hp
  ·exact hn hp
  omega)).trans (h.block i hi hn)⟩
theorem AA.grown (h:AA S a w) {row:Option Nat} (hg:w.grownBy w' row) (hr:∀k,row=some k→k<a.heap.size→S k):AA S a w':=
 h.then_ (S':=fun i=>row=some i) ⟨hg.os,hg.tape,hg.output,hg.size,fun i hi hn=>hg.block i hi fun e=>hn e.symm⟩ (fun i hi e=>hr i e hi)
theorem AA.below (h:AA S w w') {B:Nat} (hB:B≤w.heap.size) (hs:∀i,S i→B≤i):Below B w w':=
 ⟨h.os,h.tape,h.output,h.size,fun i hi=>h.block i (by omega) fun e=>by have:=hs i e;omega⟩
theorem AA.of_below {B:Nat} (h:Below B w w') (hs:∀i,i<w.heap.size→B≤i→S i):AA S w w':=
 ⟨h.os,h.tape,h.output,h.size,fun i hi hn=>h.block i (by
  rcases Nat.lt_or_ge i B with h1|h1
  ·exact h1
  exact absurd (hs i hi h1) hn)⟩
def A4 (w w':World):Prop:=AA (fun _=>False) w w'
theorem A4.below (h:A4 w w'):Below w.heap.size w w':=AA.below h (V6 _) (fun _ e=>e.elim)
theorem A4.of_below (h:Below w.heap.size w w'):A4 w w':=AA.of_below h (fun i hi hB=>by omega)
theorem A4.refl (w:World):A4 w w:=AA.refl _ _
theorem A4.trans (h:A4 a w) (k:A4 w w'):A4 a w':=AA.trans h k
theorem AA.grew (h:AA S a w) (k:A4 w w'):AA S a w':=h.then_ k fun _ _ e=>e.elim
theorem A4.keeps (k:A4 a w):AA S a w:=AA.mono k fun _ _ e=>e.elim
end
def AR (w:World) (g:Nat) (t:TypeId) (cs:Array Value):Prop:=w.heap[g]? =some (.cells cs t (0,0))
section
variable {w w':World} {g:Nat} {t:TypeId} {cs:Array Value} {S:Nat→Prop}
theorem AR.lt (h:AR w g t cs):g<w.heap.size:=by
 rcases Nat.lt_or_ge g w.heap.size with hlt|hge
 ·exact hlt
 unfold AR at h;rw[Array.getElem?_eq_none hge]at h;cases h
theorem AR.cell (h:AR w g t cs) (i:Nat):w.cell? ⟨g,i,none⟩=cs[i]? :=by unfold AR at h;simp[World.cell?,h]
theorem AR.frozen (h:AR w g t cs) (i:Nat):w.frozen? ⟨g,i,none⟩=false:=by unfold AR at h;simp[World.frozen?,h]
theorem AR.new (w:World) (t:TypeId) (cs:Array Value):AR (w.alloc (.cells cs t)) w.heap.size t cs:=by
 unfold AR;show(w.heap.push _)[w.heap.size]? =_;simp
theorem AR.keep (h:AR w g t cs) (hk:AA S w w') (hg:¬S g):AR w' g t cs:=(hk.block g h.lt hg).trans h
theorem AR.grew (h:AR w g t cs) (hk:A4 w w'):AR w' g t cs:=h.keep hk fun e=>e
theorem AR.drew (h:AR w g t cs):AR w.drew g t cs:=h
theorem AR.drewN (h:AR w g t cs) (n:Nat):AR (w.drewN n) g t cs:=h
theorem AR.alloc (h:AR w g t cs) (o:Obj):AR (w.alloc o) g t cs:=(Below.heap_alloc w o g h.lt).trans h
theorem AR.set_ (h:AR w g t cs) (i:Nat) (u:Value):AR (w.setCell ⟨g,i,none⟩ u) g t (cs.setIfInBounds i u):=by
 unfold AR at h ⊢;simp[World.setCell,Array.getElem?_modify,h]
theorem AR.far (h:AR w g t cs) {p:Addr} (hp:g≠p.block) (u:Value):AR (w.setCell p u) g t cs:=(Below.heap_setCell w p u g hp).trans h
theorem AR.ne_ {g':Nat} {t':TypeId} {cs':Array Value} (h:AR w g t cs) (h':AR w g' t' cs') (hne:t≠t'):g≠g':=by
 rintro rfl;unfold AR at h h';rw[h]at h';injection h' with h';injection h' with _ ht;exact hne ht
end
def B9 (w:World) (base:Nat) (e:TypeId) (v:Value) (xs:List Value):Prop:=w.ownsRow base e 1 v xs.length xs
section
variable {w w':World} {base:Nat} {e:TypeId} {v:Value} {xs:List Value} {S:Nat→Prop}
theorem B9.nil (w:World) (base:Nat) (e:TypeId):B9 w base e (.slice none 0 0) []:=World.ownsRow_nil _ _ _ _
theorem B9.lt (h:B9 w base e v xs):∀k,v.ownBlock=some k→base≤k∧k<w.heap.size:=World.ownsRow.lt h
theorem B9.keep (h:B9 w base e v xs) (hk:AA S w w') (hv:∀k,v.ownBlock=some k→¬S k):B9 w' base e v xs:=by
 obtain⟨h1,h2⟩:=h;refine⟨h1,?_⟩;rcases h2 with h2|⟨g,cap,cur,rfl,hg,hh,r⟩
 ·exact .inl h2
 have hlt:g<w.heap.size:=by
  rcases Nat.lt_or_ge g w.heap.size with hlt|hge
  ·exact hlt
  rw[Array.getElem?_eq_none hge]at hh;cases hh
 exact .inr ⟨g,cap,cur,rfl,hg,(hk.block g hlt (hv g rfl)).trans hh,r⟩
theorem B9.grew (h:B9 w base e v xs) (hk:A4 w w'):B9 w' base e v xs:=h.keep hk fun _ _ e=>e
theorem B9.drew (h:B9 w base e v xs):B9 w.drew base e v xs:=h
theorem B9.alloc (h:B9 w base e v xs) (o:Obj):B9 (w.alloc o) base e v xs:=World.ownsRow.alloc h o
theorem B9.form (h:B9 w base e v xs):(v= .slice none 0 0∧xs=[])∨
  ∃g cap cur,v= .slice (some ⟨g,0,none⟩) xs.length cap∧base≤g∧AR w g e cur∧xs.length≤cap∧cap≤maxLen∧cur.size=cap∧cur.toList.take xs.length=xs:=by
 obtain⟨h1,h2⟩:=h;rcases h2 with⟨rfl,h2⟩|⟨g,cap,cur,rfl,hg,hh,h3,h4,h5,h6⟩
 ·exact .inl ⟨rfl,List.eq_nil_of_length_eq_zero h2⟩
 exact .inr ⟨g,cap,cur,rfl,hg,hh,h3,h4,by omega,by simpa using h6⟩
theorem B9.mk' {g cap:Nat} {cur:Array Value} (hg:base≤g) (hb:AR w g e cur) (h1:xs.length≤cap) (h2:cap≤maxLen) (h3:cur.size=cap) (h4:cur.toList.take xs.length=xs):
  B9 w base e (.slice (some ⟨g,0,none⟩) xs.length cap) xs:=
 ⟨by simp,.inr ⟨g,cap,cur,rfl,hg,hb,h1,h2,by omega,by simpa using h4⟩⟩
theorem B9.base_le {base':Nat} (h:B9 w base e v xs) (hb:base'≤base):B9 w base' e v xs:=by
 obtain⟨h1,h2⟩:=h;refine⟨h1,?_⟩;rcases h2 with h2|⟨g,cap,cur,hv,hg,r⟩
 ·exact .inl h2
 exact .inr ⟨g,cap,cur,hv,VD hb hg,r⟩
theorem B9.store (h:B9 w base e v xs) {g:Nat} (hg:v.ownBlock=some g) {i:Nat} (_:i<xs.length) (u:Value):
  B9 (w.setCell ⟨g,i,none⟩ u) base e v (xs.set i u):=by
 rcases h.form with⟨rfl,_⟩|⟨g',cap,cur,rfl,hb,hbox,h1,h2,h3,h4⟩
 ·cases hg
 have:g'=g:=by simpa[Value.ownBlock]using hg
 subst this;have hl:(xs.set i u).length=xs.length:=by simp
 rw[←hl];refine B9.mk' (cur:=cur.setIfInBounds i u) hb (hbox.set_ i u) (by omega) h2 (by simpa using h3) ?_;rw[hl,Array.toList_setIfInBounds,List.take_set,h4]
end
theorem B9.ne_box {w:World} {base:Nat} {e t:TypeId} {v:Value} {xs:List Value} {g k:Nat} {cs:Array Value} (h:B9 w base e v xs) (hv:v.ownBlock=some k) (hb:AR w g t cs) (hne:e≠t):k≠g:=by
 rcases h.form with⟨rfl,_⟩|⟨g',cap,cur,rfl,_,hbox,_⟩
 ·cases hv
 have:g'=k:=by simpa[Value.ownBlock]using hv
 subst this;exact hbox.ne_ hb hne
theorem B9.far {w:World} {base:Nat} {e:TypeId} {v:Value} {xs:List Value} (h:B9 w base e v xs) {p:Addr} (hp:v.ownBlock≠some p.block) (u:Value):B9 (w.setCell p u) base e v xs:=
 h.keep (S:=fun i=>i=p.block) ((AA.refl (fun i=>i=p.block) w).setCell (p:=p) (.inl rfl) u) (fun k hk e=>by subst e;exact hp hk)
def Rd (w:World) (B:Nat) (v:Value) (xs:List Value):Prop:=
 ∃A c,v= .slice A xs.length c∧xs.length≤c∧(0<xs.length→∃ad,A=some ad∧ad.block<B∧∀j u,xs[j]? =some u→w.cell? (ad.add j)=some u)
section
variable {w w':World} {B B':Nat} {v:Value} {xs:List Value} {S:Nat→Prop}
theorem KA (a:Addr) (n:Nat):(a.add n).block=a.block:=by unfold Addr.add;split<;>rfl
theorem Rd.keep (h:Rd w B v xs) (hB:B≤w.heap.size) (hk:AA S w w') (hs:∀i,i<B→¬S i):Rd w' B v xs:=by
 obtain⟨A,c,hv,hc,hx⟩:=h;refine⟨A,c,hv,hc,fun hn=>?_⟩;obtain⟨ad,e,hb,hcell⟩:=hx hn;refine⟨ad,e,hb,fun j u hu=>(World.cell?_of_block ?_).trans (hcell j u hu)⟩;rw[KA];exact hk.block _ (by omega) (hs _ hb)
theorem Rd.grew (h:Rd w B v xs) (hB:B≤w.heap.size) (hk:A4 w w'):Rd w' B v xs:=h.keep hB hk fun _ _ e=>e
theorem Rd.more (h:Rd w B v xs) (hB:B≤B'):Rd w B' v xs:=by
 obtain⟨A,c,hv,hc,hx⟩:=h;refine⟨A,c,hv,hc,fun hn=>?_⟩;obtain⟨ad,e,hb,hcell⟩:=hx hn;exact⟨ad,e,by omega,hcell⟩
theorem Rd.form (h:Rd w B v xs):∃A n c,v= .slice A n c∧n=xs.length∧n≤c:=by
 obtain⟨A,c,rfl,hc,_⟩:=h;exact⟨A,_,c,rfl,rfl,hc⟩
theorem Rd.at_ {A:Option Addr} {n c j:Nat} (h:Rd w B (.slice A n c) xs) (hj:j<xs.length):∃ad u,A=some ad∧ad.block<B∧xs[j]? =some u∧w.cell? (ad.add j)=some u:=by
 obtain⟨A',c',hv,_,hx⟩:=h;injection hv with hA;subst hA;obtain⟨ad,rfl,hb,hc⟩:=hx (by omega);exact⟨ad,xs[j],rfl,hb,VB hj,hc j _ (VB hj)⟩
theorem B9.rd {base:Nat} {e:TypeId} (h:B9 w base e v xs):Rd w w.heap.size v xs:=by
 rcases h.form with⟨rfl,rfl⟩|⟨g,cap,cur,rfl,hb,hbox,h1,h2,h3,h4⟩
 ·exact⟨none,0,rfl,V6 _,fun h=>absurd h (by simp)⟩
 refine⟨_,cap,rfl,h1,fun _=>⟨⟨g,0,none⟩,rfl,hbox.lt,fun j u hu=>?_⟩⟩;have hj:j<xs.length:=(VG.1 hu).1;have e1:(⟨g,0,none⟩:Addr).add j=⟨g,j,none⟩:=by unfold Addr.add;split<;>simp_all
 rw[e1,hbox.cell,←Array.getElem?_toList,←hu,←h4,List.getElem?_take,VN (by simpa[h4]using hj)]
end
theorem VU (w:World):A4 w w:=A4.refl w
theorem VV {S S':Nat→Prop} {a w w':World} (h:AA S a w) (k:AA S' w w') (hs:∀i,i<a.heap.size→S' i→S i):AA S a w':=h.then_ k hs
theorem VW (w:World) (t:TypeId) (cs:Array Value):AR (w.alloc (.cells cs t)) w.heap.size t cs:=AR.new w t cs
theorem VX {S:Nat→Prop} {a w:World} (h:AA S a w):AA S a w.drew:=h.drew
theorem VY (S:Nat→Prop) (w:World):AA S w w:=AA.refl S w
theorem VZ {S:Nat→Prop} {a w:World} (h:AA S a w) {p:Addr} (hp:S p.block∨a.heap.size≤p.block) (u:Value):AA S a (w.setCell p u):=h.setCell hp u
theorem Va {S:Nat→Prop} {a w:World} (h:AA S a w) (n:Nat):AA S a (w.drewN n):=h.drewN n
theorem Vb {S:Nat→Prop} {a w:World} (k:A4 a w):AA S a w:=k.keeps
structure SI (P:Program) (t e:TypeId) (bytes:Nat) (z:Value):Prop where
 under:P.underlying t=some (.slice e)
 info:(P.info? e).map (fun i=>(i.zero,i.size,i.bytes))=some (some z,1,bytes)
 cells:z.cells.size=1
 small:bytes≤64
section
variable {P:Program} {t e:TypeId} {bytes:Nat} {z:Value} {w:World} {base:Nat} {v:Value} {xs:List Value}
theorem SM (T:SI P t e bytes z) (ty:TypeId) (hown:B9 w base e v xs) {B:Nat} {sv:Value} {ys:List Value} (hr:Rd w B sv ys) (h1:∀u∈ys,u.oneCell'=true)
  (hn:xs.length+ys.length≤1099511627776) (hbase:base≤w.heap.size):
  ∃v' w',(Builtin.append_ #[t,t] ty #[v,sv]).run P w= .ok v' w'∧B9 w' base e v' (xs++ys)∧AA (fun i=>v.ownBlock=some i) w w'∧
   (v'.ownBlock=v.ownBlock∨v'.ownBlock=some w.heap.size):=by
 obtain⟨i,hi,hz,hs,hby⟩:=info_parts T.info;obtain⟨A,c,rfl,hc,hx⟩:=hr;have hb64:=T.small;rcases A with _|ad
 ·have hy:ys=[]:=by
   rcases ys with _|⟨y,ys⟩
   ·rfl
   obtain⟨ad,h,_⟩:=hx (by simp);cases h
  subst hy;refine⟨v,w,?_,by simpa using hown,VY _ _,.inl rfl⟩;rcases hown.2 with⟨rfl,h0⟩|⟨g,cap,cur,rfl,_,_,hnc,_⟩
  ·have:xs=[]:=List.eq_nil_of_length_eq_zero h0;subst this;simp[Builtin.append_,run_underlying T.under,sizeOf,typeInfo,hi,Builtin.lenOf,Builtin.firstCells]
  simp[Builtin.append_,run_underlying T.under,sizeOf,typeInfo,hi,Builtin.lenOf,Builtin.firstCells,hnc,storeCells]
 have hcells:∀j u,ys[j]? =some u→w.cell? (ad.add j)=some u:=by
  intro j u hu;rcases ys with _|⟨y,ys⟩
  ·simp at hu
  obtain⟨ad',h,_,hc⟩:=hx (by simp);injection h with h;subst h;exact hc j u hu
 have hm:(xs.length+ys.length)*bytes≤140737488355328:=by
  have:=Nat.mul_le_mul hn hb64;omega
 obtain⟨v',w',hrun,h2,h3,_,h5⟩:=run_append_own_at (P:=P) w base t ty e i z 1 bytes T.under hi hz hs hby T.cells (by decide) v xs.length xs hown ad ys.length c ys (by simp) hcells h1 (by unfold maxLen;omega) hm hbase;refine⟨v',w',hrun,?_,(VY _ w).grown h3 (fun k e _=>e),h5⟩;unfold B9;rw[VR];exact h2
theorem Gu {ops:Array Oper} {rest:List Oper} {o:Oper} {a:Act} {Q:Exit→Act→World→Prop} (T:SI P t e bytes z) (hgd:o.guard=none) (s x:Operand)
  (ho:o.op= .call { callee:= .builtin .append,args:=#[s,x],argTypes:=#[t,t] })
  (hs:a.eval s=v) (hown:B9 w base e v xs) {B:Nat} {sv:Value} {ys:List Value} (hx:a.eval x=sv) (hr:Rd w B sv ys) (h1:∀u∈ys,u.oneCell'=true)
  (hn:xs.length+ys.length≤1099511627776) (hbase:base≤w.heap.size)
  (h:∀A m cap w',(xs++ys).length=m→B9 w' base e (.slice A m cap) (xs++ys)→AA (fun i=>v.ownBlock=some i) w w'→
   ((Value.slice A m cap).ownBlock=v.ownBlock∨(Value.slice A m cap).ownBlock=some w.heap.size)→wpList P ops Q rest (a.put o.dst (.slice A m cap)) w'):wpList P ops Q (o::rest) a w:=by
 refine wpList_plain hgd fun K hK=>?_
 obtain⟨v',w',hrun,h2,h3,h4⟩:=SM (P:=P) T o.type hown hr h1 hn hbase;unfold Oper.wp execOp;simp only[ho,resolve,invoke,builtin,Sem.run_bind,Sem.run_pure,Result.andThen_ok,List.map_toArray,List.map_cons,List.map_nil,hs,hx,hrun];rcases h2.form with⟨rfl,hh⟩|⟨g,cap,cur,rfl,_⟩
 ·rw[hh]at h2;exact hK _ _ (h none 0 0 w' (by rw[hh];rfl) (by rw[hh];exact h2) h3 h4)
 exact hK _ _ (h _ _ cap w' rfl h2 h3 h4)
theorem Ii {ops:Array Oper} {rest:List Oper} {o:Oper} {a:Act} {Q:Exit→Act→World→Prop} (T:SI P t e bytes z) (hgd:o.guard=none) (s x:Operand)
  (ho:o.op= .call { callee:= .builtin .append,args:=#[s,x],argTypes:=#[t,t] })
  (hs:a.eval s=v) (hown:B9 w base e v xs) (g c:Nat) (u:Value) (hx:a.eval x= .slice (some ⟨g,0,none⟩) 1 c) (hc1:1≤c) (hg:g<w.heap.size) (hu:w.cell? ⟨g,0,none⟩=some u) (h1:u.oneCell'=true)
  (hn:xs.length<1099511627776) (hbase:base≤w.heap.size)
  (h:∀r cap w',B9 w' base e (.slice (some ⟨r,0,none⟩) (xs.length+1) cap) (xs++[u])→AA (fun i=>v.ownBlock=some i) w w'→
   (some r=v.ownBlock∨r=w.heap.size)→base≤r→r<w'.heap.size→wpList P ops Q rest (a.put o.dst (.slice (some ⟨r,0,none⟩) (xs.length+1) cap)) w'):wpList P ops Q (o::rest) a w:=by
 have hr:Rd w w.heap.size (.slice (some ⟨g,0,none⟩) 1 c) [u]:=by
  refine⟨_,c,rfl,hc1,fun _=>⟨_,rfl,hg,fun j u' hu'=>?_⟩⟩
  match j,hu' with
  |0,hu'=>simp at hu';subst hu';simpa[Addr.add]using hu
 refine Gu T hgd s x ho hs hown hx hr (by intro u' hu';simp at hu';subst hu';exact h1) (by simp;omega) hbase ?_;intro A m cap w' hm h2 h3 h4;rcases h2.form with⟨_,hh⟩|⟨g',cap',cur,hv,hb,hbox,_⟩
 ·simp at hh
 injection hv with hv1 hv2 hv3;subst hv1 hv2 hv3;simp only[VR,List.length_singleton]at h2 h4 ⊢;refine h g' cap w' h2 h3 ?_ hb hbox.lt;rcases h4 with h4|h4
 ·exact .inl h4
 right;simpa[Value.ownBlock]using h4
end
end Go.Proofs.YthpflelgbadkcaaGreatDoor
namespace Go.Proofs.YthpflelgbadkcaaGreatDoor.Pl
def Bytes (bs:List Nat):Prop:=∀x∈bs,x<256
def BI (n:Int):Prop:= -9223372036854775808≤n∧n≤9223372036854775807
def UH (n:Int):Nat:=if 0≤n then(2*n).toNat else(-2*n-1).toNat
def TP (z:Nat):Int:=if z%2=0 then(z/2:Nat)else -((z/2:Nat):Int)-1
def KS (i:Nat):Nat:=if i=0 then 0 else if i=1 then 4 else if i=2 then 8 else if i=3 then 16 else if i=4 then 32 else 64
def Ub (z:Nat):Nat:=if z<1 then 0 else if z<16 then 1 else if z<256 then 2 else if z<65536 then 3 else if z<4294967296 then 4 else 5
def Ug (z k:Nat):List Bool:=(List.range k).map fun i=>z.testBit (k-1-i)
def un (i:Nat):List Bool:=List.replicate i true++[false]
def Pc (n:Int):List Bool:=un (Ub (UH n))++Ug (UH n) (KS (Ub (UH n)))
def val (s:List Bool):Nat:=s.foldl (fun n b=>2*n+b.toNat) 0
def Tc:Nat→List Bool→Option (Nat×List Bool)
 |_,[]=>none
 |_,false::t=>some (0,t)
 |0,true::_=>none
 |most+1,true::t=>(Tc most t).map fun p=>(p.1+1,p.2)
def parse (s:List Bool):Option (Int×List Bool):=
 match Tc 5 s with
 |none=>none
 |some (i,t)=>
  if t.length<KS i then none
  else if 0<i∧val (t.take (KS i))<2^KS (i-1)then none
  else some (TP (val (t.take (KS i))),t.drop (KS i))
end Go.Proofs.YthpflelgbadkcaaGreatDoor.Pl
namespace Go.Proofs.YthpflelgbadkcaaGreatDoor
open Go.RowKit Pl
def vb (x:Nat):Value:= .int .u8 x
theorem TZ:SI Tryz.prog 154 5 1 (.int .u8 0):=⟨Tryz.underlying154,by kernel_rfl,rfl,by decide⟩
def JV (g:Nat) (v:Value) (w w':World):Prop:=AA (fun i=>i=g∨v.ownBlock=some i) w w'
end Go.Proofs.YthpflelgbadkcaaGreatDoor
namespace Go.Proofs.YthpflelgbadkcaaGreatDoor
open Go.RowKit Go.Shelf Pl
attribute [local go_sem] Oper.semAt_some
def SL (k:Nat):List (Fin 64):=(List.range k).map fun j=>Fin.ofNat 64 (k-1-j)
attribute [local go_sem] Oper.semAt_some
section
variable {W W':World} {row:Option Nat} {g:Nat} {t:TypeId} {cs:Array Value}
end
end Go.Proofs.YthpflelgbadkcaaGreatDoor
namespace Go.Proofs.YthpflelgbadkcaaGreatDoor
open Go.RowKit Pl
end Go.Proofs.YthpflelgbadkcaaGreatDoor
namespace Go.Proofs.YthpflelgbadkcaaGreatDoor.Pl
open Go.RowKit
def OF:Int→Int→List Int→List Int
 |_,_,[]=>[]
 |b,a,n::l=>wrap64 (n-2*a+b)::OF a n l
def Sc (l:List Int):List Bool:=l.flatMap Pc
def ints (l:List Int):List Bool:=Pc l.length++Sc (OF 0 0 l)
def p1 (l:List Int) (j:Nat):Int:=(0::l).getD j 0
def p2 (l:List Int) (j:Nat):Int:=(0::0::l).getD j 0
def GK:Nat→Int→Int→List Bool→Option (List Int×List Bool)
 |0,_,_,s=>some ([],s)
 |k+1,b,a,s=>
  match parse s with
  |none=>none
  |some (d,t)=>(GK k a (wrap64 (d+2*a-b)) t).map fun p=>(wrap64 (d+2*a-b)::p.1,p.2)
def PZ (r:List Bool):Prop:=r.length<8∧∀b∈r,b=false
instance (r:List Bool):Decidable (PZ r):=by unfold PZ;infer_instance
end Go.Proofs.YthpflelgbadkcaaGreatDoor.Pl
namespace Go.Proofs.YthpflelgbadkcaaGreatDoor
open Go.RowKit Pl
def vi (x:Int):Value:= .int .i64 x
end Go.Proofs.YthpflelgbadkcaaGreatDoor
namespace Go.Proofs.YthpflelgbadkcaaGreatDoor
open Go.ChangeShapes Go.WideShapes Go.ChangeAt Go.RowKit Pl
open Go.ChangeMaps (open_string shut_string)
theorem own:ownKnob Tryz.prog.godebug=none:=by kernel_rfl
theorem Nq:laidOutB Tryz.prog=true:=by kernel_rfl
theorem Nu {w:World} {a:Addr} {v:Value} (h:w.cell? a=some v):a.block<w.heap.size:=by
 rcases Nat.lt_or_ge a.block w.heap.size with h1|h1
 ·exact h1
 simp[World.cell?,Array.getElem?_eq_none h1]at h
def JS (cs:Array Value):Obj→Obj
 | .cells _ t frozen=> .cells cs t frozen
 |o=>o
def Ma (k:IntKind) (w:World) (a:Option Addr) (len cap:Nat) (zs:List Int):Prop:=
 (a=none∧len=0∧cap=0∧zs=[])∨
 ∃x,a=some x∧len≤cap∧cap≤maxLen∧zs.length=cap∧(∀i,i<zs.length→w.cell? (x.add i)=some (.int k (zs.getD i 0)))∧∀n∈zs,(Lit.int k n).wf=true
theorem PJ {n:Int} (h:(Lit.int .i64 n).wf=true):BI n:=by
 simpa[Lit.wf,BI,IntKind.min,IntKind.max,IntKind.signed,IntKind.bits]using h
theorem Ma.rd_ {k:IntKind} {w:World} {a:Option Addr} {len cap:Nat} {zs:List Int} (h:Ma k w a len cap zs):
  Rd w w.heap.size (.slice a len cap) ((zs.take len).map fun n=> .int k n):=by
 rcases h with⟨rfl,rfl,rfl,rfl⟩|⟨x,rfl,hl,_,hz,hc,_⟩
 ·exact⟨none,0,rfl,V6 _,fun h=>absurd h (by simp)⟩
 have hn:((zs.take len).map fun n=>Value.int k n).length=len:=by simp;omega
 refine⟨some x,cap,by rw[hn],by rw[hn];exact hl,fun h0=>⟨x,rfl,?_,fun j u hu=>?_⟩⟩
 ·have:=Nu (hc 0 (by omega));rwa[KA]at this
 have hj:j<len:=by rw[←hn];exact(VG.1 hu).1
 rw[hc j (by omega),←hu];have hjz:j<zs.length:=by omega
 simp[List.getD,hj,hjz]
theorem Ma.ints {w:World} {a:Option Addr} {len cap:Nat} {zs:List Int} (h:Ma .i64 w a len cap zs):
  ∃ls:List Int,Rd w w.heap.size (.slice a len cap) (ls.map vi)∧∀x∈ls,BI x:=by
 refine⟨zs.take len,h.rd_,fun x hx=>?_⟩;have hx:=List.mem_of_mem_take hx;rcases h with⟨_,_,_,rfl⟩|⟨_,_,_,_,_,_,hw⟩
 ·simp at hx
 exact PJ (hw x hx)
theorem Q0 {H:Type} {enc:TypeId×Value→H} {k:IntKind} {W:World} {t e:TypeId} {a:Option Addr} {len cap:Nat} {d:DataW H} {p:List MemPlace}
  (ht:Tryz.prog.underlying t=some (.slice e)) (he:Tryz.prog.underlying e=some (.int k)) (hce:Tryz.prog.cellsOf e=1)
  (h:DataW.Trod enc Tryz.prog W 0 (fun _=>true) true t (.slice a len cap) d p):∃zs,Ma k W a len cap zs:=by
 obtain⟨fuel,hf⟩:=h;rcases open_ints ht he hce hf with⟨hcs,_⟩|⟨x,l,c,zs,hcs,_,hl,hm,hz,_,hcell,hwz⟩
 ·simp[Value.cells]at hcs;obtain⟨rfl,rfl,rfl⟩:=hcs;exact⟨[],.inl ⟨rfl,rfl,rfl,rfl⟩⟩
 simp[Value.cells]at hcs;obtain⟨rfl,rfl,rfl⟩:=hcs;exact⟨zs,.inr ⟨_,rfl,hl,hm,by simpa using hz,hcell,hwz⟩⟩
theorem Rd.len_eq {w:World} {B:Nat} {A:Option Addr} {n c:Nat} {xs:List Value} (h:Rd w B (.slice A n c) xs):n=xs.length:=by
 obtain⟨A',c',hv,_⟩:=h;injection hv
theorem Qw:Tryz.prog.bytesOf 3=8:=by kernel_rfl
theorem Li {H:Type} {enc:TypeId×Value→H} {W:World} {a:Option Addr} {len cap:Nat} {d:DataW H} {p:List MemPlace} {ts:List TypeId} {ds:List (DataW H)} {ls:List Int}
  (h:DataW.Trod enc Tryz.prog W 0 (fun _=>true) true 22 (.slice a len cap) d p) (hsz:(DataW.weightsEach Tryz.prog ts ds).all (·≤reachBytes)=true)
  (j:Nat) (hj:ts[j]? =some 22) (hd:ds[j]? =some d) (hr:Rd W W.heap.size (.slice a len cap) (ls.map vi)):ls.length≤1000000000000000:=by
 have hl:=hr.len_eq;rw[List.length_map]at hl;rw[←hl];obtain⟨fuel,hf⟩:=h;rcases open_ints Tryz.underlying22 Tryz.underlying3 (by kernel_rfl) hf with⟨hcs,_⟩|⟨x,l,c,zs,hcs,_,hl,hm,hz,hx,_⟩
 ·simp[Value.cells]at hcs;omega
 simp[Value.cells]at hcs;obtain⟨rfl,rfl,rfl⟩:=hcs;simp only[VP]at hx;obtain⟨rfl, -⟩:=hx;have:=sized_slice hsz hj hd Tryz.underlying22;rw[Qw]at this;have hl1:(lits (H:=H) .i64 (zs.take len)).length=len:=by
  simp[lits];simp at hz;omega
 have hb:=reachBytes_lt;rw[hl1]at this;omega
end Go.Proofs.YthpflelgbadkcaaGreatDoor
namespace Go.Proofs.YthpflelgbadkcaaGreatDoor
open Go.RowKit
def FR (s:ByteArray) (i:Nat):Nat:=if h:i<s.size then(s[i]'h).toNat else 0
theorem IA {s:ByteArray} {i b:Nat} (h:i<s.size) (hb:(s[i]'h).toNat=b):FR s i=b:=by unfold FR;rw[dif_pos h,hb]
def GH (c:Nat):Bool:=decide (97≤c∧c≤122)
def C8 (c:Nat):Bool:=decide (48≤c∧c≤57)
def Ck (c:Nat):Bool:=GH c||C8 c||decide (c=95)
def Bv (s:ByteArray) (p:Nat→Bool):Nat→Nat→Nat
 |0,i=>i
 |k+1,i=>if decide (i<s.size)&&p (FR s i)then Bv s p k (i+1)else i
theorem GA {s:ByteArray} {p:Nat→Bool} {k i:Nat} (h:¬(i<s.size∧p (FR s i)=true)):Bv s p k i=i:=by
 cases k with
 |zero=>rfl
 |succ k=>
  unfold Bv;rw[VM];intro hc;rw[Bool.and_eq_true,decide_eq_true_iff]at hc;exact h hc
theorem Hx {s:ByteArray} {p:Nat→Bool} {i:Nat} (h1:i<s.size) (h2:p (FR s i)=true):Bv s p (s.size-i) i=Bv s p (s.size-(i+1)) (i+1):=by
 obtain⟨k,hk⟩:∃k,s.size-i=k+1:=⟨s.size-i-1,by omega⟩;rw[hk,show s.size-(i+1)=k by omega];rw[Bv,VN (by rw[h2];simpa using h1)]
theorem EN {s:ByteArray} {p:Nat→Bool}:∀(k i:Nat),i≤s.size→i≤Bv s p k i∧Bv s p k i≤s.size
 |0,i,h=>⟨V6 _,h⟩
 |k+1,i,h=>by
  unfold Bv;by_cases hc:(decide (i<s.size)&&p (FR s i))=true
  ·rw[VN hc];rw[Bool.and_eq_true,decide_eq_true_iff]at hc;have:=EN (p:=p) k (i+1) (show i+1≤s.size by omega);omega
  rw[VM hc];exact⟨V6 _,h⟩
theorem Im {s:ByteArray} {p:Nat→Bool} {i:Nat} (h1:i<s.size) (h2:p (FR s i)=true):i<Bv s p (s.size-i) i:=by
 rw[Hx h1 h2];have:=(EN (s:=s) (p:=p) (s.size-(i+1)) (i+1) (by omega)).1;omega
theorem LW {s:ByteArray} {p:Nat→Bool}:∀(k i j:Nat),i≤j→j<Bv s p k i→j<s.size∧p (FR s j)=true
 |0,i,j,h1,h2=>by
  have:Bv s p 0 i=i:=rfl;omega
 |k+1,i,j,h1,h2=>by
  unfold Bv at h2;by_cases hc:(decide (i<s.size)&&p (FR s i))=true
  ·rw[VN hc]at h2;rw[Bool.and_eq_true,decide_eq_true_iff]at hc;by_cases hij:i=j
   ·subst hij;exact hc
   exact LW k (i+1) j (by omega) h2
  rw[VM hc]at h2;omega
def Fb (s:ByteArray) (i:Nat):Nat→Nat
 |0=>0
 |k+1=>Fb s i k*10+(FR s (i+k)-48)
theorem KQ (s:ByteArray) (i:Nat):∀(j k:Nat),j≤k→Fb s i j≤Fb s i k
 |j,0,h=>by rw[show j=0 by omega];exact V6 _
 |j,k+1,h=>by
  by_cases hj:j=k+1
  ·rw[hj];exact V6 _
  have:=KQ s i j k (by omega);rw[show Fb s i (k+1)=Fb s i k*10+(FR s (i+k)-48)from rfl];omega
structure C7 where
 kind:Nat
 text:ByteArray
 num:Nat
 off:Nat
def C7.cells (t:C7):List Value:=[.int .i64 (t.kind:Nat),.string t.text,.int .i64 (t.num:Nat),.int .i64 (t.off:Nat)]
def CZ (s:ByteArray) (i:Nat):Nat:=
 if[43,45,42,47,40,41,123,125,44,46,64,61].contains (FR s i)then 1
 else if(FR s i=33∨FR s i=94)∧i+1<s.size∧FR s (i+1)=61 then 2 else 0
def GJ (s:ByteArray) (i:Nat):Option (C7×Nat):=
 if GH (FR s i)then
  if Bv s Ck (s.size-i) i-i≤16 then some (⟨0,s.extract i (Bv s Ck (s.size-i) i),0,i⟩,Bv s Ck (s.size-i) i)else none
 else if C8 (FR s i)then
  if Fb s i (Bv s C8 (s.size-i) i-i)≤1073741824 then some (⟨1,s.extract i (Bv s C8 (s.size-i) i),Fb s i (Bv s C8 (s.size-i) i-i),i⟩,Bv s C8 (s.size-i) i)else none
 else if FR s i=34 then none
 else if CZ s i=0 then none else some (⟨3,s.extract i (i+CZ s i),0,i⟩,i+CZ s i)
def blank (c:Nat):Bool:=decide (c=9∨c=10∨c=13∨c=32)
def Oc (s:ByteArray):Nat→Nat→Option (List C7)
 |0,_=>none
 |k+1,i=>
  if i<s.size then
   if blank (FR s i)then Oc s k (i+1)
   else match GJ s i with
    |none=>none
    |some (t,j)=>match Oc s k j with
     |none=>none
     |some ts=>some (t::ts)
  else some []
abbrev Mt:=ByteArray×Int×ByteArray
inductive Ex where
 |mk (kind fn window offset k num den:Int) (name:ByteArray) (ms:List Mt) (bys:List ByteArray) (kids:List Ex)
namespace Ex
def kind:Ex→Int| .mk a _ _ _ _ _ _ _ _ _ _=>a
def fn:Ex→Int| .mk _ a _ _ _ _ _ _ _ _ _=>a
def window:Ex→Int| .mk _ _ a _ _ _ _ _ _ _ _=>a
def offset:Ex→Int| .mk _ _ _ a _ _ _ _ _ _ _=>a
def k:Ex→Int| .mk _ _ _ _ a _ _ _ _ _ _=>a
def num:Ex→Int| .mk _ _ _ _ _ a _ _ _ _ _=>a
def den:Ex→Int| .mk _ _ _ _ _ _ a _ _ _ _=>a
def name:Ex→ByteArray| .mk _ _ _ _ _ _ _ a _ _ _=>a
def ms:Ex→List Mt| .mk _ _ _ _ _ _ _ _ a _ _=>a
def bys:Ex→List ByteArray| .mk _ _ _ _ _ _ _ _ _ a _=>a
def kids:Ex→List Ex| .mk _ _ _ _ _ _ _ _ _ _ a=>a
end Ex
def AC (e:Ex) (vm vb vk:Value):List Value:=[.int .i64 e.kind,.int .i64 e.fn,.int .i64 e.window,.int .i64 e.offset,.int .i64 e.k,.int .i64 e.num,.int .i64 e.den,.string e.name,vm,vb,vk]
def Cg (w:World) (B sz:Nat) (v:Value) (rows:List (List Value)):Prop:=
 ∃A c,v= .slice A rows.length c∧rows.length≤c∧(0<rows.length→∃b o,A=some ⟨b,o,none⟩∧b<B∧∀j cs,rows[j]? =some cs→w.rangeAt b (o+j*sz) cs)
def Ac (m:Mt):List Value:=[.string m.1,.int .i64 m.2.1,.string m.2.2]
mutual
def BU (w:World) (B:Nat):Ex→List Value→Prop
 | .mk kind fn window offset k num den name ms bys kids,cs=>∃vm vb vk,cs=AC (.mk kind fn window offset k num den name ms bys kids) vm vb vk∧Cg w B 3 vm (ms.map Ac)∧Cg w B 1 vb (bys.map fun s=>[Value.string s])∧
   ∃A c,vk= .slice A kids.length c∧kids.length≤c∧(0<kids.length→∃b o,A=some ⟨b,o,none⟩∧b<B∧Ds w B b o kids)
def Ds (w:World) (B b o:Nat):List Ex→Prop
 |[]=>True
 |e::es=>(∃cs,w.rangeAt b o cs∧BU w B e cs)∧Ds w B b (o+11) es
end
section
variable {w w':World} {B B':Nat}
theorem AU {S:Nat→Prop} {b o:Nat} {cs:List Value} (h:w.rangeAt b o cs) (hb:b<w.heap.size) (hk:AA S w w') (hs:¬S b):w'.rangeAt b o cs:=fun j u hu=>
 (World.cell?_of_block (a:=⟨b,o+j,none⟩) (hk.block b hb hs)).trans (h j u hu)
theorem Cg.keep {S:Nat→Prop} {sz:Nat} {v:Value} {rows:List (List Value)} (h:Cg w B sz v rows) (hB:B≤w.heap.size) (hB':B≤B') (hk:AA S w w') (hs:∀i,i<B→¬S i):Cg w' B' sz v rows:=by
 obtain⟨A,c,hv,hc,hx⟩:=h;refine⟨A,c,hv,hc,fun hn=>?_⟩;obtain⟨b,o,e,hb,hcell⟩:=hx hn;exact⟨b,o,e,by omega,fun j cs hj=>AU (hcell j cs hj) (by omega) hk (hs _ hb)⟩
mutual
theorem BU.keep {S:Nat→Prop} (hB:B≤w.heap.size) (hB':B≤B') (hk:AA S w w') (hs:∀i,i<B→¬S i):∀(e:Ex) (cs:List Value),BU w B e cs→BU w' B' e cs
 | .mk kind fn window offset k num den name ms bys kids,cs,h=>by
  unfold BU at h ⊢;obtain⟨vm,vb,vk,h1,h2,h3,A,c,h4,h5,h6⟩:=h;refine⟨vm,vb,vk,h1,h2.keep hB hB' hk hs,h3.keep hB hB' hk hs,A,c,h4,h5,fun hn=>?_⟩;obtain⟨b,o,e1,hb,hks⟩:=h6 hn;exact⟨b,o,e1,by omega,Ds.keep hB hB' hk hs b hb kids o hks⟩
theorem Ds.keep {S:Nat→Prop} (hB:B≤w.heap.size) (hB':B≤B') (hk:AA S w w') (hs:∀i,i<B→¬S i) (b:Nat) (hb:b<B):∀(es:List Ex) (o:Nat),Ds w B b o es→Ds w' B' b o es
 |[],_,_=>by unfold Ds;trivial
 |e::es,o,h=>by
  unfold Ds at h ⊢;obtain⟨⟨cs,h1,h2⟩,h3⟩:=h;exact⟨⟨cs,AU h1 (by omega) hk (hs _ hb),BU.keep hB hB' hk hs e cs h2⟩,Ds.keep hB hB' hk hs b hb es (o+11) h3⟩
end
theorem BU.grew {e:Ex} {cs:List Value} (h:BU w w.heap.size e cs) (g:A4 w w'):BU w' w'.heap.size e cs:=BU.keep (V6 _) g.size g (fun _ _ h=>h) e cs h
theorem Ds.at_ {b:Nat}:∀{es:List Ex} {o j:Nat} {e:Ex},Ds w B b o es→es[j]? =some e→∃cs,w.rangeAt b (o+j*11) cs∧BU w B e cs
 |e::es,o,0,e',h,hj=>by
  unfold Ds at h;obtain rfl:e=e':=by simpa using hj
  simpa using h.1
 |e::es,o,j+1,e',h,hj=>by
  unfold Ds at h;have:=Ds.at_ (j:=j) h.2 (by simpa using hj);rwa[show o+11+j*11=o+(j+1)*11 by omega]at this
end
end Go.Proofs.YthpflelgbadkcaaGreatDoor
namespace Go.Proofs.YthpflelgbadkcaaGreatDoor
mutual
def AH:Ex→Nat
 | .mk _ _ _ _ _ _ _ _ _ _ kids=>1+Ar kids
def Ar:List Ex→Nat
 |[]=>0
 |e::es=>AH e+Ar es
end
mutual
def BN:Ex→Nat
 | .mk _ _ _ _ _ _ _ _ _ _ kids=>Br kids+1
def Br:List Ex→Nat
 |[]=>0
 |e::es=>max (BN e) (Br es)
end
mutual
def Fw:Ex→Ex→Bool
 | .mk k f w o q n d nm ms bs ks,.mk k' f' w' o' q' n' d' nm' ms' bs' ks'=>
  decide (k=k'∧f=f'∧w=w'∧o=o'∧q=q'∧n=n'∧d=d'∧nm=nm'∧ms=ms'∧bs=bs')&&Ec ks ks'
def Ec:List Ex→List Ex→Bool
 |[],[]=>true
 |a::ax,b::bs=>Fw a b&&Ec ax bs
 |_,_=>false
end
def BB (n d:Int):Ex:= .mk 0 0 0 0 0 n d ⟨#[]⟩ [] [] []
theorem Aj (e:Ex):1≤AH e:=by
 cases e;unfold AH;omega
theorem AT:∀{es:List Ex} {e:Ex},e∈es→AH e≤Ar es
 |a::ax,e,h=>by
  unfold Ar;rcases List.mem_cons.1 h with rfl|h
  ·omega
  have:=AT h;omega
theorem IS:∀{es:List Ex} {e:Ex},e∈es→BN e≤Br es
 |a::ax,e,h=>by
  unfold Br;rcases List.mem_cons.1 h with rfl|h
  ·omega
  have:=IS h;omega
def Ax (f:Int) (a b:Ex):Ex:= .mk 3 f 0 0 0 0 0 ⟨#[]⟩ [] [] [a,b]
end Go.Proofs.YthpflelgbadkcaaGreatDoor
namespace Go.Proofs.YthpflelgbadkcaaGreatDoor
open Go.RowKit
theorem C3 (g:Nat):∀(vs:List Value) (o:Nat) (w:World),AA (fun i=>i=g) w (w.setCells g o vs)∧(w.setCells g o vs).drawn=w.drawn
 |[],_,w=>⟨VY _ w,rfl⟩
 |v::r,o,w=>by
  have h:=C3 g r (o+1) (w.setCell ⟨g,o,none⟩ v);exact⟨((VY (fun i=>i=g) w).setCell (p:=⟨g,o,none⟩) (.inl rfl) v).trans h.1,h.2⟩
theorem AR.putN {g:Nat} {t:TypeId}:∀(vs:List Value) {w:World} {us:List Value} (_:AR w g t us.toArray) (o:Nat) (_:o+vs.length≤us.length),AR (w.setCells g o vs) g t (us.take o++vs++us.drop (o+vs.length)).toArray
 |[],w,us,h,o,_=>by simpa[World.setCells]using h
 |v::r,w,us,h,o,hl=>by
  simp only[List.length_cons]at hl;have h1:=h.set_ o v;rw[List.setIfInBounds_toArray]at h1;have h2:=AR.putN r h1 (o+1) (by simp;omega);have e:(us.set o v).take (o+1)++r++(us.set o v).drop (o+1+r.length)=us.take o++v::r++us.drop (o+(v::r).length):=by
   rw[List.take_add_one,List.take_set_of_le (V6 o),List.getElem?_set_self (by omega),List.drop_set_of_lt (by omega)];simp[Nat.add_assoc,Nat.add_comm 1]
  rw[e]at h2;exact h2
section
variable {P:Program} {w:World} {g:Nat} {t:TypeId} {us:List Value}
theorem AR.thereN (h:AR w g t us.toArray) (o n:Nat) (hn:o+n≤us.length):w.there g o n:=fun j hj=>by
 refine⟨?_,h.frozen _⟩;rw[h.cell];simp;omega
theorem AR.rangeN (h:AR w g t us.toArray) (o:Nat) (cs:List Value) (hc:(us.drop o).take cs.length=cs):w.rangeAt g o cs:=fun j u hu=>by
 rw[h.cell,List.getElem?_toArray];have hj:j<cs.length:=(VG.1 hu).1;rw[←hu,←hc,List.getElem?_take,VN hj,List.getElem?_drop]
variable {ops:Array Oper} {rest:List Oper} {o:Oper} {a:Act} {Q:Exit→Act→World→Prop}
theorem BL (T:TypeId) (x y:Operand) (g:Nat) (vs us:List Value) (t:TypeId) (hT:(P.info? T).map (·.size)=some vs.length) (hl:us.length=vs.length) (h1:∀v∈vs,v.oneCell'=true) (hgd:o.guard=none) (ho:o.op= .store T x y)
  (hx:a.eval x= .pointer (some ⟨g,0,none⟩)) (hy:a.eval y= .agg vs.toArray) (hb:AR w g t us.toArray)
  (h:∀w',AR w' g t vs.toArray→AA (fun i=>i=g) w w'→w'.drawn=w.drawn→wpList P ops Q rest (a.put o.dst undef) w'):wpList P ops Q (o::rest) a w:=by
 refine wpList_store_mid hgd T x y ho g 0 vs.toArray hx hy (by simpa using hb.thereN 0 vs.length (by omega)) (by simpa using hT) (all_oneCell_toArray h1) ?_;obtain⟨k1,k2⟩:=C3 g vs 0 w;have hp:=hb.putN vs 0 (by omega);have e:us.take 0++vs++us.drop (0+vs.length)=vs:=by simp[←hl]
 rw[e]at hp;exact h _ hp k1 k2
theorem BZ (T:TypeId) {d:TypeDesc} (hu:P.underlying T=some d) (hd:d.isRow=true) (x:Operand) (g:Nat) (vs:List Value) (t:TypeId) (hT:(P.info? T).map (·.size)=some vs.length) (hgd:o.guard=none) (ho:o.op= .load T x)
  (hx:a.eval x= .pointer (some ⟨g,0,none⟩)) (hb:AR w g t vs.toArray)
  (h:wpList P ops Q rest (a.put o.dst (.agg vs.toArray)) w):wpList P ops Q (o::rest) a w:=
 wpList_load_mid hgd T x ho g 0 hx vs _ (hb.rangeN 0 vs (by simp)) hu hd hT h
theorem AF (T:TypeId) (x:Operand) (_:o.op= .load T x) (h:wpList P ops Q (o::rest) a w):wpList P ops Q (o::rest) a w:=h
theorem AG (T:TypeId) (x y:Operand) (_:o.op= .store T x y) (h:wpList P ops Q (o::rest) a w):wpList P ops Q (o::rest) a w:=h
end
end Go.Proofs.YthpflelgbadkcaaGreatDoor
namespace Go.Proofs.YthpflelgbadkcaaGreatDoor
open Go.RowKit Pl
theorem L3 {α:Type} {xs ys:List α} {j:Nat} (h:xs.take j=ys.take j) (hx:xs[j]? =ys[j]?):xs.take (j+1)=ys.take (j+1):=by
 rw[List.take_add_one,List.take_add_one,h,hx]
theorem Mo {α:Type} {xs ys:List α} {n:Nat} (hx:xs.length≤n) (hy:ys.length≤n) (h:xs.take n=ys.take n):xs=ys:=by
 rwa[List.take_of_length_le hx,List.take_of_length_le hy]at h
end Go.Proofs.YthpflelgbadkcaaGreatDoor
