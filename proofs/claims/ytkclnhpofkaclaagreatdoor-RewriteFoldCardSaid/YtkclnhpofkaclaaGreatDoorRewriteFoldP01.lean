/- What the card of the law stands on: Kit, App, Plain, Bit, Pos, WBits, WUnary, Ints, Write, CInts, Door, DoorR, BoxN, Sh, LexPl. -/
import Derived.WalkKit
import Derived.Laws.OwnMore
import Derived.Deep.Draws
import Derived.Deep.AppendLies
import Derived.Maps.AppendAt
import Derived.Lib.Hide
import Derived.KernelRfl
import Derived.Test.YtkclnhpofkaclaaGreatDoorProg
import Derived.BigRegion
import Derived.RangeFuncNested
import Derived.RangeFuncBound
import Derived.RangeFuncCalls
import Derived.RangeFuncLeaves
import Derived.Shelf.Abstract
import Derived.Shelf.RegionOpen
import Derived.OwnWalkIn
import Derived.TacticsInMore
import Derived.LoopNIn
import Derived.LoopIn
import Derived.WalkSpells
import Derived.IntWalk
import Derived.Test.YtkclnhpofkaclaaGreatDoorCards
import Derived.Test.YtkclnhpofkaclaaGreatDoorTie
import Derived.ProofKit
import Derived.OpenShut
import Derived.ShutString
import Derived.ChangeOld
import Derived.Below
import Derived.Deep.DeepHandedRow
import Derived.Lib.LaidTab
import Derived.SizedLaws
import Derived.Deep.MidRow
set_option maxRecDepth 100000
set_option maxHeartbeats 12800000
set_option linter.unusedVariables false
set_option linter.unusedSimpArgs false
namespace Go.Proofs.YtkclnhpofkaclaaGreatDoor
theorem UX {p:Prop} (h:p):Go.RowKit.Hid p:=Lib.hid h
theorem UY {α:Type} [BEq α] [LawfulBEq α] {a b:α}:(a==b)=false↔a≠b:=beq_eq_false_iff_ne
theorem UZ {a b:Prop} (x:a) (y:b):a∧b:=And.intro x y
theorem Ua (n:Nat):n≤n:=Nat.le_refl n
theorem Ub {n m k:Nat} (h:n<m) (i:m≤k):n<k:=Nat.lt_of_lt_of_le h i
theorem Uc {α:Type} {l:List α} {i:Nat} (h:i<l.length):l[i]? =some l[i]:=List.getElem?_eq_getElem h
theorem Ud {α:Type} [BEq α] [LawfulBEq α] {a b:α}:(a==b)=true↔a=b:=beq_iff_eq
theorem Ue {n m k:Nat} (h:n≤m) (i:m≤k):n≤k:=Nat.le_trans h i
theorem Uf {α:Type} {a b:α} (h:some a=some b):a=b:=Option.some.inj h
theorem Ug {α:Type} {a b:α}:a∈[b]↔a=b:=List.mem_singleton
theorem Uh {α:Type} {l:List α} {i:Nat} {a:α}:l[i]? =some a↔∃h:i<l.length,l[i]=a:=List.getElem?_eq_some_iff
theorem Ui {p:Prop} [Decidable p] (h:decide p=true):p:=of_decide_eq_true h
theorem Uj {p:Prop} [Decidable p] (h:¬p):decide p=false:=decide_eq_false h
theorem Uk {α:Type} {l:List α} {i:Nat} {a:α} (h:l[i]? =some a):a∈l:=List.mem_of_getElem? h
theorem Ul {α:Type} {l:Array α} {i:Nat} {a:α}:l[i]? =some a↔∃h:i<l.size,l[i]=a:=Array.getElem?_eq_some_iff
theorem Um (n m:Nat):((n*m:Nat):Int)=(n:Int)*(m:Int):=Int.natCast_mul n m
theorem Un {c:Prop} [h:Decidable c] (hc:¬c) {α:Type} {t e:α}:ite c t e=e:=if_neg hc
theorem Uo {c:Prop} [h:Decidable c] (hc:c) {α:Type} {t e:α}:ite c t e=t:=if_pos hc
theorem Up (n m:Nat):n*m=m*n:=Nat.mul_comm n m
theorem Uq {α β:Type} (a:α) (b:β) (c:α) (d:β):((a,b)=(c,d))=(a=c∧b=d):=Prod.mk.injEq a b c d
theorem Ur {α:Type} (a b:α):(some a=some b)=(a=b):=Option.some.injEq a b
theorem Us {α:Type} {x y:List α}:(x++y).length=x.length+y.length:=List.length_append
theorem Ut (n m k:Nat):n*m*k=n*(m*k):=Nat.mul_assoc n m k
theorem Uu (n m k:Nat):n+m+k=n+(m+k):=Nat.add_assoc n m k
end Go.Proofs.YtkclnhpofkaclaaGreatDoor
namespace Go.Proofs.YtkclnhpofkaclaaGreatDoor
open Go.RowKit
structure A4 (S:Nat→Prop) (w w':World):Prop where
 os:w'.os=w.os
 tape:w'.tape=w.tape
 output:w'.output=w.output
 size:w.heap.size≤w'.heap.size
 block:∀k,k<w.heap.size→¬S k→w'.heap[k]? =w.heap[k]?
section
variable {S S':Nat→Prop} {a w w':World}
theorem A4.refl (S:Nat→Prop) (w:World):A4 S w w:=⟨rfl,rfl,rfl,Ua _,fun _ _ _=>rfl⟩
theorem A4.then_ (h:A4 S a w) (k:A4 S' w w') (hs:∀i,i<a.heap.size→S' i→S i):A4 S a w':=
 ⟨k.os.trans h.os,k.tape.trans h.tape,k.output.trans h.output,Ue h.size k.size,
  fun i hi hn=>(k.block i (Ub hi h.size) (fun e=>hn (hs i hi e))).trans (h.block i hi hn)⟩
theorem A4.trans (h:A4 S a w) (k:A4 S w w'):A4 S a w':=h.then_ k fun _ _ e=>e
theorem A4.mono (h:A4 S w w') (hs:∀i,i<w.heap.size→S i→S' i):A4 S' w w':=
 ⟨h.os,h.tape,h.output,h.size,fun i hi hn=>h.block i hi fun e=>hn (hs i hi e)⟩
theorem A4.drew (h:A4 S a w):A4 S a w.drew:=⟨h.os,h.tape,h.output,h.size,h.block⟩
theorem A4.drewN (h:A4 S a w) (n:Nat):A4 S a (w.drewN n):=⟨h.os,h.tape,h.output,h.size,h.block⟩
theorem A4.alloc (h:A4 S a w) (o:Obj):A4 S a (w.alloc o):=
 ⟨h.os,h.tape,h.output,Ue h.size (by simp),fun i hi hn=>(Below.heap_alloc w o i (Ub hi h.size)).trans (h.block i hi hn)⟩
theorem A4.setCell (h:A4 S a w) {p:Addr} (hp:S p.block∨a.heap.size≤p.block) (u:Value):A4 S a (w.setCell p u):=
 ⟨h.os,h.tape,h.output,by simpa[World.setCell]using h.size,fun i hi hn=>(Below.heap_setCell w p u i (by
  rintro rfl;rcases hp with hp|hp
  ·exact hn hp
  omega)).trans (h.block i hi hn)⟩
theorem A4.grown (h:A4 S a w) {row:Option Nat} (hg:w.grownBy w' row) (hr:∀k,row=some k→k<a.heap.size→S k):A4 S a w':=
 h.then_ (S':=fun i=>row=some i) ⟨hg.os,hg.tape,hg.output,hg.size,fun i hi hn=>hg.block i hi fun e=>hn e.symm⟩ (fun i hi e=>hr i e hi)
theorem A4.below (h:A4 S w w') {B:Nat} (hB:B≤w.heap.size) (hs:∀i,S i→B≤i):Below B w w':=
 ⟨h.os,h.tape,h.output,h.size,fun i hi=>h.block i (by omega) fun e=>by have:=hs i e;omega⟩
def A5 (w w':World):Prop:=A4 (fun _=>False) w w'
theorem A5.below (h:A5 w w'):Below w.heap.size w w':=A4.below h (Ua _) (fun _ e=>e.elim)
theorem A5.refl (w:World):A5 w w:=A4.refl _ _
theorem A5.trans (h:A5 a w) (k:A5 w w'):A5 a w':=A4.trans h k
theorem A4.grew (h:A4 S a w) (k:A5 w w'):A4 S a w':=h.then_ k fun _ _ e=>e.elim
theorem A5.keeps (k:A5 a w):A4 S a w:=A4.mono k fun _ _ e=>e.elim
end
def AK (w:World) (g:Nat) (t:TypeId) (cs:Array Value):Prop:=w.heap[g]? =some (.cells cs t (0,0))
section
variable {w w':World} {g:Nat} {t:TypeId} {cs:Array Value} {S:Nat→Prop}
theorem AK.lt (h:AK w g t cs):g<w.heap.size:=by
 rcases Nat.lt_or_ge g w.heap.size with hlt|hge
 ·exact hlt
 unfold AK at h;rw[Array.getElem?_eq_none hge]at h;cases h
theorem AK.cell (h:AK w g t cs) (i:Nat):w.cell? ⟨g,i,none⟩=cs[i]? :=by unfold AK at h;simp[World.cell?,h]
theorem AK.frozen (h:AK w g t cs) (i:Nat):w.frozen? ⟨g,i,none⟩=false:=by unfold AK at h;simp[World.frozen?,h]
theorem AK.new (w:World) (t:TypeId) (cs:Array Value):AK (w.alloc (.cells cs t)) w.heap.size t cs:=by
 unfold AK;show(w.heap.push _)[w.heap.size]? =_;simp
theorem AK.keep (h:AK w g t cs) (hk:A4 S w w') (hg:¬S g):AK w' g t cs:=(hk.block g h.lt hg).trans h
theorem AK.grew (h:AK w g t cs) (hk:A5 w w'):AK w' g t cs:=h.keep hk fun e=>e
theorem AK.drew (h:AK w g t cs):AK w.drew g t cs:=h
theorem AK.drewN (h:AK w g t cs) (n:Nat):AK (w.drewN n) g t cs:=h
theorem AK.alloc (h:AK w g t cs) (o:Obj):AK (w.alloc o) g t cs:=(Below.heap_alloc w o g h.lt).trans h
theorem AK.set_ (h:AK w g t cs) (i:Nat) (u:Value):AK (w.setCell ⟨g,i,none⟩ u) g t (cs.setIfInBounds i u):=by
 unfold AK at h ⊢;simp[World.setCell,Array.getElem?_modify,h]
theorem AK.far (h:AK w g t cs) {p:Addr} (hp:g≠p.block) (u:Value):AK (w.setCell p u) g t cs:=(Below.heap_setCell w p u g hp).trans h
theorem AK.ne_ {g':Nat} {t':TypeId} {cs':Array Value} (h:AK w g t cs) (h':AK w g' t' cs') (hne:t≠t'):g≠g':=by
 rintro rfl;unfold AK at h h';rw[h]at h';injection h' with h';injection h' with _ ht;exact hne ht
end
def Bf (w:World) (base:Nat) (e:TypeId) (v:Value) (xs:List Value):Prop:=w.ownsRow base e 1 v xs.length xs
section
variable {w w':World} {base:Nat} {e:TypeId} {v:Value} {xs:List Value} {S:Nat→Prop}
theorem Bf.nil (w:World) (base:Nat) (e:TypeId):Bf w base e (.slice none 0 0) []:=World.ownsRow_nil _ _ _ _
theorem Bf.lt (h:Bf w base e v xs):∀k,v.ownBlock=some k→base≤k∧k<w.heap.size:=World.ownsRow.lt h
theorem Bf.keep (h:Bf w base e v xs) (hk:A4 S w w') (hv:∀k,v.ownBlock=some k→¬S k):Bf w' base e v xs:=by
 obtain⟨h1,h2⟩:=h;refine⟨h1,?_⟩;rcases h2 with h2|⟨g,cap,cur,rfl,hg,hh,r⟩
 ·exact .inl h2
 have hlt:g<w.heap.size:=by
  rcases Nat.lt_or_ge g w.heap.size with hlt|hge
  ·exact hlt
  rw[Array.getElem?_eq_none hge]at hh;cases hh
 exact .inr ⟨g,cap,cur,rfl,hg,(hk.block g hlt (hv g rfl)).trans hh,r⟩
theorem Bf.grew (h:Bf w base e v xs) (hk:A5 w w'):Bf w' base e v xs:=h.keep hk fun _ _ e=>e
theorem Bf.alloc (h:Bf w base e v xs) (o:Obj):Bf (w.alloc o) base e v xs:=World.ownsRow.alloc h o
theorem Bf.form (h:Bf w base e v xs):(v= .slice none 0 0∧xs=[])∨
  ∃g cap cur,v= .slice (some ⟨g,0,none⟩) xs.length cap∧base≤g∧AK w g e cur∧xs.length≤cap∧cap≤maxLen∧cur.size=cap∧cur.toList.take xs.length=xs:=by
 obtain⟨h1,h2⟩:=h;rcases h2 with⟨rfl,h2⟩|⟨g,cap,cur,rfl,hg,hh,h3,h4,h5,h6⟩
 ·exact .inl ⟨rfl,List.eq_nil_of_length_eq_zero h2⟩
 exact .inr ⟨g,cap,cur,rfl,hg,hh,h3,h4,by omega,by simpa using h6⟩
end
theorem Bf.ne_box {w:World} {base:Nat} {e t:TypeId} {v:Value} {xs:List Value} {g k:Nat} {cs:Array Value} (h:Bf w base e v xs) (hv:v.ownBlock=some k) (hb:AK w g t cs) (hne:e≠t):k≠g:=by
 rcases h.form with⟨rfl,_⟩|⟨g',cap,cur,rfl,_,hbox,_⟩
 ·cases hv
 have:g'=k:=by simpa[Value.ownBlock]using hv
 subst this;exact hbox.ne_ hb hne
theorem Bf.far {w:World} {base:Nat} {e:TypeId} {v:Value} {xs:List Value} (h:Bf w base e v xs) {p:Addr} (hp:v.ownBlock≠some p.block) (u:Value):Bf (w.setCell p u) base e v xs:=
 h.keep (S:=fun i=>i=p.block) ((A4.refl (fun i=>i=p.block) w).setCell (p:=p) (.inl rfl) u) (fun k hk e=>by subst e;exact hp hk)
def Rd (w:World) (B:Nat) (v:Value) (xs:List Value):Prop:=
 ∃A c,v= .slice A xs.length c∧xs.length≤c∧(0<xs.length→∃ad,A=some ad∧ad.block<B∧∀j u,xs[j]? =some u→w.cell? (ad.add j)=some u)
section
variable {w w':World} {B B':Nat} {v:Value} {xs:List Value} {S:Nat→Prop}
theorem Jj (a:Addr) (n:Nat):(a.add n).block=a.block:=by unfold Addr.add;split<;>rfl
theorem Rd.keep (h:Rd w B v xs) (hB:B≤w.heap.size) (hk:A4 S w w') (hs:∀i,i<B→¬S i):Rd w' B v xs:=by
 obtain⟨A,c,hv,hc,hx⟩:=h;refine⟨A,c,hv,hc,fun hn=>?_⟩;obtain⟨ad,e,hb,hcell⟩:=hx hn;refine⟨ad,e,hb,fun j u hu=>(World.cell?_of_block ?_).trans (hcell j u hu)⟩;rw[Jj];exact hk.block _ (by omega) (hs _ hb)
theorem Rd.grew (h:Rd w B v xs) (hB:B≤w.heap.size) (hk:A5 w w'):Rd w' B v xs:=h.keep hB hk fun _ _ e=>e
theorem Rd.more (h:Rd w B v xs) (hB:B≤B'):Rd w B' v xs:=by
 obtain⟨A,c,hv,hc,hx⟩:=h;refine⟨A,c,hv,hc,fun hn=>?_⟩;obtain⟨ad,e,hb,hcell⟩:=hx hn;exact⟨ad,e,by omega,hcell⟩
theorem Rd.form (h:Rd w B v xs):∃A n c,v= .slice A n c∧n=xs.length∧n≤c:=by
 obtain⟨A,c,rfl,hc,_⟩:=h;exact⟨A,_,c,rfl,rfl,hc⟩
theorem Rd.at_ {A:Option Addr} {n c j:Nat} (h:Rd w B (.slice A n c) xs) (hj:j<xs.length):∃ad u,A=some ad∧ad.block<B∧xs[j]? =some u∧w.cell? (ad.add j)=some u:=by
 obtain⟨A',c',hv,_,hx⟩:=h;injection hv with hA;subst hA;obtain⟨ad,rfl,hb,hc⟩:=hx (by omega);exact⟨ad,xs[j],rfl,hb,Uc hj,hc j _ (Uc hj)⟩
theorem Bf.rd {base:Nat} {e:TypeId} (h:Bf w base e v xs):Rd w w.heap.size v xs:=by
 rcases h.form with⟨rfl,rfl⟩|⟨g,cap,cur,rfl,hb,hbox,h1,h2,h3,h4⟩
 ·exact⟨none,0,rfl,Ua _,fun h=>absurd h (by simp)⟩
 refine⟨_,cap,rfl,h1,fun _=>⟨⟨g,0,none⟩,rfl,hbox.lt,fun j u hu=>?_⟩⟩;have hj:j<xs.length:=(Uh.1 hu).1;have e1:(⟨g,0,none⟩:Addr).add j=⟨g,j,none⟩:=by unfold Addr.add;split<;>simp_all
 rw[e1,hbox.cell,←Array.getElem?_toList,←hu,←h4,List.getElem?_take,Uo (by simpa[h4]using hj)]
end
theorem Uv (w:World):A5 w w:=A5.refl w
theorem Uw {S S':Nat→Prop} {a w w':World} (h:A4 S a w) (k:A4 S' w w') (hs:∀i,i<a.heap.size→S' i→S i):A4 S a w':=h.then_ k hs
theorem Ux (w:World) (t:TypeId) (cs:Array Value):AK (w.alloc (.cells cs t)) w.heap.size t cs:=AK.new w t cs
theorem Uy {S:Nat→Prop} {a w:World} (h:A4 S a w):A4 S a w.drew:=h.drew
theorem Uz (S:Nat→Prop) (w:World):A4 S w w:=A4.refl S w
theorem V0 {S:Nat→Prop} {a w:World} (h:A4 S a w) {p:Addr} (hp:S p.block∨a.heap.size≤p.block) (u:Value):A4 S a (w.setCell p u):=h.setCell hp u
theorem V1 {S:Nat→Prop} {a w:World} (h:A4 S a w) (n:Nat):A4 S a (w.drewN n):=h.drewN n
theorem V2 {S:Nat→Prop} {a w:World} (k:A5 a w):A4 S a w:=k.keeps
structure SV (P:Program) (t e:TypeId) (bytes:Nat) (z:Value):Prop where
 under:P.underlying t=some (.slice e)
 info:(P.info? e).map (fun i=>(i.zero,i.size,i.bytes))=some (some z,1,bytes)
 cells:z.cells.size=1
 small:bytes≤64
section
variable {P:Program} {t e:TypeId} {bytes:Nat} {z:Value} {w:World} {base:Nat} {v:Value} {xs:List Value}
theorem Qe (T:SV P t e bytes z) (ty:TypeId) (hown:Bf w base e v xs) {B:Nat} {sv:Value} {ys:List Value} (hr:Rd w B sv ys) (h1:∀u∈ys,u.oneCell'=true)
  (hn:xs.length+ys.length≤1099511627776) (hbase:base≤w.heap.size):
  ∃v' w',(Builtin.append_ #[t,t] ty #[v,sv]).run P w= .ok v' w'∧Bf w' base e v' (xs++ys)∧A4 (fun i=>v.ownBlock=some i) w w'∧
   (v'.ownBlock=v.ownBlock∨v'.ownBlock=some w.heap.size):=by
 obtain⟨i,hi,hz,hs,hby⟩:=info_parts T.info;obtain⟨A,c,rfl,hc,hx⟩:=hr;have hb64:=T.small;rcases A with _|ad
 ·have hy:ys=[]:=by
   rcases ys with _|⟨y,ys⟩
   ·rfl
   obtain⟨ad,h,_⟩:=hx (by simp);cases h
  subst hy;refine⟨v,w,?_,by simpa using hown,Uz _ _,.inl rfl⟩;rcases hown.2 with⟨rfl,h0⟩|⟨g,cap,cur,rfl,_,_,hnc,_⟩
  ·have:xs=[]:=List.eq_nil_of_length_eq_zero h0;subst this;simp[Builtin.append_,run_underlying T.under,sizeOf,typeInfo,hi,Builtin.lenOf,Builtin.firstCells]
  simp[Builtin.append_,run_underlying T.under,sizeOf,typeInfo,hi,Builtin.lenOf,Builtin.firstCells,hnc,storeCells]
 have hcells:∀j u,ys[j]? =some u→w.cell? (ad.add j)=some u:=by
  intro j u hu;rcases ys with _|⟨y,ys⟩
  ·simp at hu
  obtain⟨ad',h,_,hc⟩:=hx (by simp);injection h with h;subst h;exact hc j u hu
 have hm:(xs.length+ys.length)*bytes≤140737488355328:=by
  have:=Nat.mul_le_mul hn hb64;omega
 obtain⟨v',w',hrun,h2,h3,_,h5⟩:=run_append_own_at (P:=P) w base t ty e i z 1 bytes T.under hi hz hs hby T.cells (by decide) v xs.length xs hown ad ys.length c ys (by simp) hcells h1 (by unfold maxLen;omega) hm hbase;refine⟨v',w',hrun,?_,(Uz _ w).grown h3 (fun k e _=>e),h5⟩;unfold Bf;rw[Us];exact h2
theorem RF {ops:Array Oper} {rest:List Oper} {o:Oper} {a:Act} {Q:Exit→Act→World→Prop} (T:SV P t e bytes z) (hgd:o.guard=none) (s x:Operand)
  (ho:o.op= .call { callee:= .builtin .append,args:=#[s,x],argTypes:=#[t,t] })
  (hs:a.eval s=v) (hown:Bf w base e v xs) {B:Nat} {sv:Value} {ys:List Value} (hx:a.eval x=sv) (hr:Rd w B sv ys) (h1:∀u∈ys,u.oneCell'=true)
  (hn:xs.length+ys.length≤1099511627776) (hbase:base≤w.heap.size)
  (h:∀A m cap w',(xs++ys).length=m→Bf w' base e (.slice A m cap) (xs++ys)→A4 (fun i=>v.ownBlock=some i) w w'→
   ((Value.slice A m cap).ownBlock=v.ownBlock∨(Value.slice A m cap).ownBlock=some w.heap.size)→wpList P ops Q rest (a.put o.dst (.slice A m cap)) w'):wpList P ops Q (o::rest) a w:=by
 refine wpList_plain hgd fun K hK=>?_
 obtain⟨v',w',hrun,h2,h3,h4⟩:=Qe (P:=P) T o.type hown hr h1 hn hbase;unfold Oper.wp execOp;simp only[ho,resolve,invoke,builtin,Sem.run_bind,Sem.run_pure,Result.andThen_ok,List.map_toArray,List.map_cons,List.map_nil,hs,hx,hrun];rcases h2.form with⟨rfl,hh⟩|⟨g,cap,cur,rfl,_⟩
 ·rw[hh]at h2;exact hK _ _ (h none 0 0 w' (by rw[hh];rfl) (by rw[hh];exact h2) h3 h4)
 exact hK _ _ (h _ _ cap w' rfl h2 h3 h4)
theorem NH {ops:Array Oper} {rest:List Oper} {o:Oper} {a:Act} {Q:Exit→Act→World→Prop} (T:SV P t e bytes z) (hgd:o.guard=none) (s x:Operand)
  (ho:o.op= .call { callee:= .builtin .append,args:=#[s,x],argTypes:=#[t,t] })
  (hs:a.eval s=v) (hown:Bf w base e v xs) (g c:Nat) (u:Value) (hx:a.eval x= .slice (some ⟨g,0,none⟩) 1 c) (hc1:1≤c) (hg:g<w.heap.size) (hu:w.cell? ⟨g,0,none⟩=some u) (h1:u.oneCell'=true)
  (hn:xs.length<1099511627776) (hbase:base≤w.heap.size)
  (h:∀r cap w',Bf w' base e (.slice (some ⟨r,0,none⟩) (xs.length+1) cap) (xs++[u])→A4 (fun i=>v.ownBlock=some i) w w'→
   (some r=v.ownBlock∨r=w.heap.size)→base≤r→r<w'.heap.size→wpList P ops Q rest (a.put o.dst (.slice (some ⟨r,0,none⟩) (xs.length+1) cap)) w'):wpList P ops Q (o::rest) a w:=by
 have hr:Rd w w.heap.size (.slice (some ⟨g,0,none⟩) 1 c) [u]:=by
  refine⟨_,c,rfl,hc1,fun _=>⟨_,rfl,hg,fun j u' hu'=>?_⟩⟩
  match j,hu' with
  |0,hu'=>simp at hu';subst hu';simpa[Addr.add]using hu
 refine RF T hgd s x ho hs hown hx hr (by intro u' hu';simp at hu';subst hu';exact h1) (by simp;omega) hbase ?_;intro A m cap w' hm h2 h3 h4;rcases h2.form with⟨_,hh⟩|⟨g',cap',cur,hv,hb,hbox,_⟩
 ·simp at hh
 injection hv with hv1 hv2 hv3;subst hv1 hv2 hv3;simp only[Us,List.length_singleton]at h2 h4 ⊢;refine h g' cap w' h2 h3 ?_ hb hbox.lt;rcases h4 with h4|h4
 ·exact .inl h4
 right;simpa[Value.ownBlock]using h4
end
end Go.Proofs.YtkclnhpofkaclaaGreatDoor
namespace Go.Proofs.YtkclnhpofkaclaaGreatDoor.Pl
def Fe (b:Bool) (k:Nat):Nat:=if b then 2^k else 0
def SD (s:List Bool) (j:Nat):Nat:=
 Fe (s.getD (8*j) false) 7+Fe (s.getD (8*j+1) false) 6+Fe (s.getD (8*j+2) false) 5+Fe (s.getD (8*j+3) false) 4+
 Fe (s.getD (8*j+4) false) 3+Fe (s.getD (8*j+5) false) 2+Fe (s.getD (8*j+6) false) 1+Fe (s.getD (8*j+7) false) 0
def R5 (s:List Bool):List Nat:=(List.range ((s.length+7)/8)).map (SD s)
def RY (bs:List Nat) (k:Nat):Bool:=(bs.getD (k/8) 0).testBit (7-k%8)
def Il (bs:List Nat):List Bool:=(List.range (8*bs.length)).map (RY bs)
def Bytes (bs:List Nat):Prop:=∀x∈bs,x<256
def UW (n:Nat):List Bool:=List.replicate (8*((n+7)/8)-n) false
def Td (f:Nat→Bool):Nat:=Fe (f 0) 7+Fe (f 1) 6+Fe (f 2) 5+Fe (f 3) 4+Fe (f 4) 3+Fe (f 5) 2+Fe (f 6) 1+Fe (f 7) 0
def Ah (n:Int):Prop:= -9223372036854775808≤n∧n≤9223372036854775807
def S4 (n:Int):Nat:=if 0≤n then(2*n).toNat else(-2*n-1).toNat
def RZ (z:Nat):Int:=if z%2=0 then(z/2:Nat)else -((z/2:Nat):Int)-1
def JM (i:Nat):Nat:=if i=0 then 0 else if i=1 then 4 else if i=2 then 8 else if i=3 then 16 else if i=4 then 32 else 64
def TV (z:Nat):Nat:=if z<1 then 0 else if z<16 then 1 else if z<256 then 2 else if z<65536 then 3 else if z<4294967296 then 4 else 5
def UE (z k:Nat):List Bool:=(List.range k).map fun i=>z.testBit (k-1-i)
def un (i:Nat):List Bool:=List.replicate i true++[false]
def Nu (n:Int):List Bool:=un (TV (S4 n))++UE (S4 n) (JM (TV (S4 n)))
def val (s:List Bool):Nat:=s.foldl (fun n b=>2*n+b.toNat) 0
def Qz:Nat→List Bool→Option (Nat×List Bool)
 |_,[]=>none
 |_,false::t=>some (0,t)
 |0,true::_=>none
 |most+1,true::t=>(Qz most t).map fun p=>(p.1+1,p.2)
def parse (s:List Bool):Option (Int×List Bool):=
 match Qz 5 s with
 |none=>none
 |some (i,t)=>
  if t.length<JM i then none
  else if 0<i∧val (t.take (JM i))<2^JM (i-1)then none
  else some (RZ (val (t.take (JM i))),t.drop (JM i))
end Go.Proofs.YtkclnhpofkaclaaGreatDoor.Pl
namespace Go.Proofs.YtkclnhpofkaclaaGreatDoor
open Go.RowKit Pl
def vb (x:Nat):Value:= .int .u8 x
theorem Sz:SV Tryz.prog 98 5 1 (.int .u8 0):=⟨Tryz.underlying98,by kernel_rfl,rfl,by decide⟩
def Tc (w:World) (v v':Value):Prop:=∀k,v'.ownBlock=some k→v.ownBlock=some k∨w.heap.size≤k
def IG (g:Nat) (v:Value) (w w':World):Prop:=A4 (fun i=>i=g∨v.ownBlock=some i) w w'
end Go.Proofs.YtkclnhpofkaclaaGreatDoor
namespace Go.Proofs.YtkclnhpofkaclaaGreatDoor
open Go.RowKit Go.Shelf Pl
attribute [local go_sem] Oper.semAt_some
def Sj (k:Nat):List (Fin 64):=(List.range k).map fun j=>Fin.ofNat 64 (k-1-j)
attribute [local go_sem] Oper.semAt_some
section
variable {W W':World} {row:Option Nat} {g:Nat} {t:TypeId} {cs:Array Value}
end
end Go.Proofs.YtkclnhpofkaclaaGreatDoor
namespace Go.Proofs.YtkclnhpofkaclaaGreatDoor
open Go.RowKit Pl
end Go.Proofs.YtkclnhpofkaclaaGreatDoor
namespace Go.Proofs.YtkclnhpofkaclaaGreatDoor.Pl
open Go.RowKit
def NE:Int→Int→List Int→List Int
 |_,_,[]=>[]
 |b,a,n::l=>wrap64 (n-2*a+b)::NE a n l
def Pc (l:List Int):List Bool:=l.flatMap Nu
def ints (l:List Int):List Bool:=Nu l.length++Pc (NE 0 0 l)
def p1 (l:List Int) (j:Nat):Int:=(0::l).getD j 0
def p2 (l:List Int) (j:Nat):Int:=(0::0::l).getD j 0
def EN:Nat→Int→Int→List Bool→Option (List Int×List Bool)
 |0,_,_,s=>some ([],s)
 |k+1,b,a,s=>
  match parse s with
  |none=>none
  |some (d,t)=>(EN k a (wrap64 (d+2*a-b)) t).map fun p=>(wrap64 (d+2*a-b)::p.1,p.2)
def I7 (r:List Bool):Prop:=r.length<8∧∀b∈r,b=false
instance (r:List Bool):Decidable (I7 r):=by unfold I7;infer_instance
def Qy (N:Nat) (t:List Bool):Option (List Int):=
 match EN N 0 0 t with
 |none=>none
 |some (l,r)=>if I7 r then some l else none
def SR (bs:List Nat):Option (List Int):=
 match parse (Il bs)with
 |none=>none
 |some (n,t)=>if n<0 then none else Qy n.toNat t
def Rb (bs:List Nat) (N:Nat) (t:List Bool):Option (List Int):=
 match EN N 0 0 t with
 |none=>none
 |some (l,_)=>if R5 (ints l)=bs then some l else none
def RI (bs:List Nat):Option (List Int):=
 match parse (Il bs)with
 |none=>none
 |some (n,t)=>if n<0∨(Il bs).length<n then none else Rb bs n.toNat t
end Go.Proofs.YtkclnhpofkaclaaGreatDoor.Pl
namespace Go.Proofs.YtkclnhpofkaclaaGreatDoor
open Go.RowKit Pl
def vi (x:Int):Value:= .int .i64 x
end Go.Proofs.YtkclnhpofkaclaaGreatDoor
namespace Go.Proofs.YtkclnhpofkaclaaGreatDoor
open Go.ChangeShapes Go.WideShapes Go.ChangeAt Go.RowKit Pl
open Go.ChangeMaps (open_string shut_string)
theorem own:ownKnob Tryz.prog.godebug=none:=by kernel_rfl
theorem Qf:laidOutB Tryz.prog=true:=by kernel_rfl
theorem NP {w:World} {a:Addr} {v:Value} (h:w.cell? a=some v):a.block<w.heap.size:=by
 rcases Nat.lt_or_ge a.block w.heap.size with h1|h1
 ·exact h1
 simp[World.cell?,Array.getElem?_eq_none h1]at h
def IQ (cs:Array Value):Obj→Obj
 | .cells _ t frozen=> .cells cs t frozen
 |o=>o
def LM (k:IntKind) (w:World) (a:Option Addr) (len cap:Nat) (zs:List Int):Prop:=
 (a=none∧len=0∧cap=0∧zs=[])∨
 ∃x,a=some x∧len≤cap∧cap≤maxLen∧zs.length=cap∧(∀i,i<zs.length→w.cell? (x.add i)=some (.int k (zs.getD i 0)))∧∀n∈zs,(Lit.int k n).wf=true
theorem FY {n:Int} (h:(Lit.int .i64 n).wf=true):Ah n:=by
 simpa[Lit.wf,Ah,IntKind.min,IntKind.max,IntKind.signed,IntKind.bits]using h
theorem LM.rd_ {k:IntKind} {w:World} {a:Option Addr} {len cap:Nat} {zs:List Int} (h:LM k w a len cap zs):
  Rd w w.heap.size (.slice a len cap) ((zs.take len).map fun n=> .int k n):=by
 rcases h with⟨rfl,rfl,rfl,rfl⟩|⟨x,rfl,hl,_,hz,hc,_⟩
 ·exact⟨none,0,rfl,Ua _,fun h=>absurd h (by simp)⟩
 have hn:((zs.take len).map fun n=>Value.int k n).length=len:=by simp;omega
 refine⟨some x,cap,by rw[hn],by rw[hn];exact hl,fun h0=>⟨x,rfl,?_,fun j u hu=>?_⟩⟩
 ·have:=NP (hc 0 (by omega));rwa[Jj]at this
 have hj:j<len:=by rw[←hn];exact(Uh.1 hu).1
 rw[hc j (by omega),←hu];have hjz:j<zs.length:=by omega
 simp[List.getD,hj,hjz]
theorem LM.ints {w:World} {a:Option Addr} {len cap:Nat} {zs:List Int} (h:LM .i64 w a len cap zs):
  ∃ls:List Int,Rd w w.heap.size (.slice a len cap) (ls.map vi)∧∀x∈ls,Ah x:=by
 refine⟨zs.take len,h.rd_,fun x hx=>?_⟩;have hx:=List.mem_of_mem_take hx;rcases h with⟨_,_,_,rfl⟩|⟨_,_,_,_,_,_,hw⟩
 ·simp at hx
 exact FY (hw x hx)
theorem Rv {H:Type} {enc:TypeId×Value→H} {k:IntKind} {W:World} {t e:TypeId} {a:Option Addr} {len cap:Nat} {d:DataW H} {p:List MemPlace}
  (ht:Tryz.prog.underlying t=some (.slice e)) (he:Tryz.prog.underlying e=some (.int k)) (hce:Tryz.prog.cellsOf e=1)
  (h:DataW.Trod enc Tryz.prog W 0 (fun _=>true) true t (.slice a len cap) d p):∃zs,LM k W a len cap zs:=by
 obtain⟨fuel,hf⟩:=h;rcases open_ints ht he hce hf with⟨hcs,_⟩|⟨x,l,c,zs,hcs,_,hl,hm,hz,_,hcell,hwz⟩
 ·simp[Value.cells]at hcs;obtain⟨rfl,rfl,rfl⟩:=hcs;exact⟨[],.inl ⟨rfl,rfl,rfl,rfl⟩⟩
 simp[Value.cells]at hcs;obtain⟨rfl,rfl,rfl⟩:=hcs;exact⟨zs,.inr ⟨_,rfl,hl,hm,by simpa using hz,hcell,hwz⟩⟩
theorem Rd.len_eq {w:World} {B:Nat} {A:Option Addr} {n c:Nat} {xs:List Value} (h:Rd w B (.slice A n c) xs):n=xs.length:=by
 obtain⟨A',c',hv,_⟩:=h;injection hv
theorem QG:Tryz.prog.bytesOf 3=8:=by kernel_rfl
theorem P3 {H:Type} {enc:TypeId×Value→H} {W:World} {a:Option Addr} {len cap:Nat} {d:DataW H} {p:List MemPlace} {ts:List TypeId} {ds:List (DataW H)} {ls:List Int}
  (h:DataW.Trod enc Tryz.prog W 0 (fun _=>true) true 22 (.slice a len cap) d p) (hsz:(DataW.weightsEach Tryz.prog ts ds).all (·≤reachBytes)=true)
  (j:Nat) (hj:ts[j]? =some 22) (hd:ds[j]? =some d) (hr:Rd W W.heap.size (.slice a len cap) (ls.map vi)):ls.length≤1000000000000000:=by
 have hl:=hr.len_eq;rw[List.length_map]at hl;rw[←hl];obtain⟨fuel,hf⟩:=h;rcases open_ints Tryz.underlying22 Tryz.underlying3 (by kernel_rfl) hf with⟨hcs,_⟩|⟨x,l,c,zs,hcs,_,hl,hm,hz,hx,_⟩
 ·simp[Value.cells]at hcs;omega
 simp[Value.cells]at hcs;obtain⟨rfl,rfl,rfl⟩:=hcs;simp only[Uq]at hx;obtain⟨rfl, -⟩:=hx;have:=sized_slice hsz hj hd Tryz.underlying22;rw[QG]at this;have hl1:(lits (H:=H) .i64 (zs.take len)).length=len:=by
  simp[lits];simp at hz;omega
 have hb:=reachBytes_lt;rw[hl1]at this;omega
end Go.Proofs.YtkclnhpofkaclaaGreatDoor
namespace Go.Proofs.YtkclnhpofkaclaaGreatDoor
open Go.RowKit
theorem C2 (g:Nat):∀(vs:List Value) (o:Nat) (w:World),A4 (fun i=>i=g) w (w.setCells g o vs)∧(w.setCells g o vs).drawn=w.drawn
 |[],_,w=>⟨Uz _ w,rfl⟩
 |v::r,o,w=>by
  have h:=C2 g r (o+1) (w.setCell ⟨g,o,none⟩ v);exact⟨((Uz (fun i=>i=g) w).setCell (p:=⟨g,o,none⟩) (.inl rfl) v).trans h.1,h.2⟩
theorem AK.putN {g:Nat} {t:TypeId}:∀(vs:List Value) {w:World} {us:List Value} (_:AK w g t us.toArray) (o:Nat) (_:o+vs.length≤us.length),AK (w.setCells g o vs) g t (us.take o++vs++us.drop (o+vs.length)).toArray
 |[],w,us,h,o,_=>by simpa[World.setCells]using h
 |v::r,w,us,h,o,hl=>by
  simp only[List.length_cons]at hl;have h1:=h.set_ o v;rw[List.setIfInBounds_toArray]at h1;have h2:=AK.putN r h1 (o+1) (by simp;omega);have e:(us.set o v).take (o+1)++r++(us.set o v).drop (o+1+r.length)=us.take o++v::r++us.drop (o+(v::r).length):=by
   rw[List.take_add_one,List.take_set_of_le (Ua o),List.getElem?_set_self (by omega),List.drop_set_of_lt (by omega)];simp[Uu,Nat.add_comm 1]
  rw[e]at h2;exact h2
section
variable {P:Program} {w:World} {g:Nat} {t:TypeId} {us:List Value}
theorem AK.thereN (h:AK w g t us.toArray) (o n:Nat) (hn:o+n≤us.length):w.there g o n:=fun j hj=>by
 refine⟨?_,h.frozen _⟩;rw[h.cell];simp;omega
theorem AK.rangeN (h:AK w g t us.toArray) (o:Nat) (cs:List Value) (hc:(us.drop o).take cs.length=cs):w.rangeAt g o cs:=fun j u hu=>by
 rw[h.cell,List.getElem?_toArray];have hj:j<cs.length:=(Uh.1 hu).1;rw[←hu,←hc,List.getElem?_take,Uo hj,List.getElem?_drop]
variable {ops:Array Oper} {rest:List Oper} {o:Oper} {a:Act} {Q:Exit→Act→World→Prop}
theorem P6 (T:TypeId) (x y:Operand) (g:Nat) (vs us:List Value) (t:TypeId) (hT:(P.info? T).map (·.size)=some vs.length) (hl:us.length=vs.length) (h1:∀v∈vs,v.oneCell'=true) (hgd:o.guard=none) (ho:o.op= .store T x y)
  (hx:a.eval x= .pointer (some ⟨g,0,none⟩)) (hy:a.eval y= .agg vs.toArray) (hb:AK w g t us.toArray)
  (h:∀w',AK w' g t vs.toArray→A4 (fun i=>i=g) w w'→w'.drawn=w.drawn→wpList P ops Q rest (a.put o.dst undef) w'):wpList P ops Q (o::rest) a w:=by
 refine wpList_store_mid hgd T x y ho g 0 vs.toArray hx hy (by simpa using hb.thereN 0 vs.length (by omega)) (by simpa using hT) (all_oneCell_toArray h1) ?_;obtain⟨k1,k2⟩:=C2 g vs 0 w;have hp:=hb.putN vs 0 (by omega);have e:us.take 0++vs++us.drop (0+vs.length)=vs:=by simp[←hl]
 rw[e]at hp;exact h _ hp k1 k2
theorem UF (T:TypeId) {d:TypeDesc} (hu:P.underlying T=some d) (hd:d.isRow=true) (x:Operand) (g:Nat) (vs:List Value) (t:TypeId) (hT:(P.info? T).map (·.size)=some vs.length) (hgd:o.guard=none) (ho:o.op= .load T x)
  (hx:a.eval x= .pointer (some ⟨g,0,none⟩)) (hb:AK w g t vs.toArray)
  (h:wpList P ops Q rest (a.put o.dst (.agg vs.toArray)) w):wpList P ops Q (o::rest) a w:=
 wpList_load_mid hgd T x ho g 0 hx vs _ (hb.rangeN 0 vs (by simp)) hu hd hT h
theorem CW (T:TypeId) (x:Operand) (_:o.op= .load T x) (h:wpList P ops Q (o::rest) a w):wpList P ops Q (o::rest) a w:=h
theorem Cw (T:TypeId) (x y:Operand) (_:o.op= .store T x y) (h:wpList P ops Q (o::rest) a w):wpList P ops Q (o::rest) a w:=h
end
def J3 (T:TypeId) (n:Nat):Prop:=(Tryz.prog.info? T).map (·.size)=some n∧∃d,Tryz.prog.underlying T=some d∧d.isRow=true
def S0 (vs:List Value):Prop:=∀v∈vs,v.oneCell'=true
theorem SY {vs:List Value} (h:vs.all (·.oneCell')=true):S0 vs:=List.all_eq_true.1 h
section
variable {w:World} {ops:Array Oper} {rest:List Oper} {o:Oper} {a:Act} {Q:Exit→Act→World→Prop} {K:Act→World→Prop} {T:TypeId} {n b k g:Nat} {vs us:List Value} {t:TypeId}
theorem lN (x:Operand) (hb:AK w g t vs.toArray) (hr:J3 T n) (h:wpList Tryz.prog ops Q rest (a.put o.dst (.agg vs.toArray)) w) (ho:o.op= .load T x:=by with_reducible exact rfl) (hl:vs.length=n:=by exact rfl) (hgd:o.guard=none:=by exact rfl) (hx:a.eval x= .pointer (some ⟨g,0,none⟩):=by exact rfl):wpList Tryz.prog ops Q (o::rest) a w:=by
 obtain⟨h1,d,h2,h3⟩:=hr;exact UF T h2 h3 x g vs t (by rw[hl];exact h1) hgd ho hx hb h
theorem sN (x y:Operand) (vs:List Value) (hb:AK w g t us.toArray) (hr:J3 T n) (h:∀w',AK w' g t vs.toArray→A4 (fun i=>i=g) w w'→w'.drawn=w.drawn→wpList Tryz.prog ops Q rest (a.put o.dst undef) w')
  (ho:o.op= .store T x y:=by with_reducible exact rfl) (hy:a.eval y= .agg vs.toArray:=by exact rfl) (hl:vs.length=n:=by exact rfl) (h1:S0 vs:=by exact SY rfl) (hu:us.length=n:=by exact rfl) (hgd:o.guard=none:=by exact rfl) (hx:a.eval x= .pointer (some ⟨g,0,none⟩):=by exact rfl):wpList Tryz.prog ops Q (o::rest) a w:=
 P6 T x y g vs us t (by rw[hl];exact hr.1) (hu.trans hl.symm) h1 hgd ho hx hy hb h
theorem lM (x:Operand) (hm:w.rangeAt b k vs) (hr:J3 T n) (h:wpList Tryz.prog ops Q rest (a.put o.dst (.agg vs.toArray)) w) (ho:o.op= .load T x:=by with_reducible exact rfl) (hl:vs.length=n:=by exact rfl) (hgd:o.guard=none:=by exact rfl) (hx:a.eval x= .pointer (some ⟨b,k,none⟩):=by exact rfl):wpList Tryz.prog ops Q (o::rest) a w:=by
 obtain⟨h1,d,h2,h3⟩:=hr;exact wpList_load_mid hgd T x ho b k hx vs _ hm h2 h3 (by rw[hl];exact h1) h
theorem mM (x:Operand) (hm:w.rangeAt b k vs) (hr:J3 T n) (h:K (a.put o.dst (.agg vs.toArray)) w) (ho:o.op= .load T x:=by exact rfl) (hl:vs.length=n:=by exact rfl) (hx:a.eval x= .pointer (some ⟨b,k,none⟩):=by exact rfl):o.wp Tryz.prog a w K Q:=by
 obtain⟨h1,d,h2,h3⟩:=hr;exact wp_load_mid T x ho b k hx vs _ hm h2 h3 (by rw[hl];exact h1) h
theorem mB (x:Operand) (hb:AK w g t vs.toArray) (hr:J3 T n) (h:K (a.put o.dst (.agg vs.toArray)) w) (ho:o.op= .load T x:=by exact rfl) (hl:vs.length=n:=by exact rfl) (hx:a.eval x= .pointer (some ⟨g,0,none⟩):=by exact rfl):o.wp Tryz.prog a w K Q:=
 mM x (hb.rangeN 0 vs (by simp)) hr h ho hl hx
theorem sW (x y:Operand) (vs:List Value) (hb:AK w g t us.toArray) (hr:J3 T n) (h:∀w',AK w' g t vs.toArray→A4 (fun i=>i=g) w w'→K (a.put o.dst undef) w')
  (ho:o.op= .store T x y:=by exact rfl) (hl:vs.length=n:=by exact rfl) (h1:S0 vs:=by exact SY rfl) (hu:us.length=n:=by exact rfl) (hx:a.eval x= .pointer (some ⟨g,0,none⟩):=by exact rfl) (hy:a.eval y= .agg vs.toArray:=by exact rfl):o.wp Tryz.prog a w K Q:=by
 refine wp_store_mid T x y ho g 0 vs.toArray hx hy (by simpa using hb.thereN 0 vs.length (by omega)) (by rw[List.size_toArray,hl];exact hr.1) (all_oneCell_toArray h1) ?_;have hp:=hb.putN vs 0 (by omega);have e:us.take 0++vs++us.drop (0+vs.length)=vs:=by
  rw[hl,←hu];simp
 rw[e]at hp;exact h _ hp (C2 g vs 0 w).1
theorem lO {G:Act} {v:Value} (x:Operand) (hc:w.cell? ⟨b,k,none⟩=some v) (ho:o.op= .load T x:=by exact rfl) (hl:∀(w:World) (v:Value),w.cell? ⟨b,k,none⟩=some v→(loadVar T ⟨b,k,none⟩).run Tryz.prog w= .ok v w:=by intro w v h;simp[go_sem,h]) (hx:a.eval x= .pointer (some ⟨b,k,none⟩):=by kernel_rfl) (hG:a.put o.dst v=G:=by kernel_rfl):o.wp Tryz.prog a w (fun a' w'=>a'=G∧A5 w w') Q:=by
 unfold Oper.wp execOp;simp only[ho,hx,Instr.loadAt,Instr.sureAddr,Sem.run_bind,Sem.run_pure,Result.andThen_ok,hl w v hc];exact⟨hG,Uv _⟩
variable {fn:Func} {R:Ending→World→Prop} {p q:Tmp} {v:Value}
theorem rO (hr:J3 T n) (hb:AK w g t vs.toArray) (hR:R (.returned (.agg vs.toArray)) w) (h:fn.results=#[.cell p T]:=by exact rfl) (hp:a.tmps.getD p undef= .pointer (some ⟨g,0,none⟩):=by exact rfl) (hl:vs.length=n:=by exact rfl) (hd:a.defers=[]:=by exact rfl):bodyPost Tryz.prog fn R .ret a w:=by
 obtain⟨h1,d,h2,h3⟩:=hr;refine bodyPost_ret ?_ hd hR;have hl:=run_loadVar_mid (P:=Tryz.prog) w g 0 T vs d (hb.rangeN 0 vs (by simp)) h2 h3 (by rw[hl];exact h1);simp only[results,h];rw[Array.getD_eq_getD_getElem?]at hp;simp[hp,hl,asAddr]
theorem rT (hr:J3 T n) (hb:AK w g t vs.toArray) (hR:R (.returned (.tuple #[.agg vs.toArray,v])) w) (h:fn.results=#[.cell p T,.tmp q]:=by exact rfl) (hp:a.tmps.getD p undef= .pointer (some ⟨g,0,none⟩):=by exact rfl) (hq:a.tmps.getD q undef=v:=by exact rfl) (hl:vs.length=n:=by exact rfl) (hd:a.defers=[]:=by exact rfl):bodyPost Tryz.prog fn R .ret a w:=by
 obtain⟨h1,d,h2,h3⟩:=hr;refine bodyPost_ret ?_ hd hR;have hl:=run_loadVar_mid (P:=Tryz.prog) w g 0 T vs d (hb.rangeN 0 vs (by simp)) h2 h3 (by rw[hl];exact h1);simp only[results,h];rw[Array.getD_eq_getD_getElem?]at hp hq
 first|(simp[hp,hq,Result.andThen,hl,asAddr];done)|(simp[Sem.run_bind,hp,hq,Result.andThen,hl,asAddr];done)|(simp only[Sem.run_bind];simp[hp,hq,Result.andThen,hl,asAddr])
end
def Ew (s:ByteArray) (i:Nat):Nat:=if h:i<s.size then(s[i]'h).toNat else 0
theorem He {s:ByteArray} {i b:Nat} (h:i<s.size) (hb:(s[i]'h).toNat=b):Ew s i=b:=by unfold Ew;rw[dif_pos h,hb]
def Fd (c:Nat):Bool:=decide (97≤c∧c≤122)
def C4 (c:Nat):Bool:=decide (48≤c∧c≤57)
def Ce (c:Nat):Bool:=Fd c||C4 c||decide (c=95)
def BX (s:ByteArray) (p:Nat→Bool):Nat→Nat→Nat
 |0,i=>i
 |k+1,i=>if decide (i<s.size)&&p (Ew s i)then BX s p k (i+1)else i
theorem FR {s:ByteArray} {p:Nat→Bool} {k i:Nat} (h:¬(i<s.size∧p (Ew s i)=true)):BX s p k i=i:=by
 cases k with
 |zero=>rfl
 |succ k=>
  unfold BX;rw[Un];intro hc;rw[Bool.and_eq_true,decide_eq_true_iff]at hc;exact h hc
theorem Hc {s:ByteArray} {p:Nat→Bool} {i:Nat} (h1:i<s.size) (h2:p (Ew s i)=true):BX s p (s.size-i) i=BX s p (s.size-(i+1)) (i+1):=by
 obtain⟨k,hk⟩:∃k,s.size-i=k+1:=⟨s.size-i-1,by omega⟩;rw[hk,show s.size-(i+1)=k by omega];rw[BX,Uo (by rw[h2];simpa using h1)]
theorem E8 {s:ByteArray} {p:Nat→Bool}:∀(k i:Nat),i≤s.size→i≤BX s p k i∧BX s p k i≤s.size
 |0,i,h=>⟨Ua _,h⟩
 |k+1,i,h=>by
  unfold BX;by_cases hc:(decide (i<s.size)&&p (Ew s i))=true
  ·rw[Uo hc];rw[Bool.and_eq_true,decide_eq_true_iff]at hc;have:=E8 (p:=p) k (i+1) (show i+1≤s.size by omega);omega
  rw[Un hc];exact⟨Ua _,h⟩
theorem Hw {s:ByteArray} {p:Nat→Bool} {i:Nat} (h1:i<s.size) (h2:p (Ew s i)=true):i<BX s p (s.size-i) i:=by
 rw[Hc h1 h2];have:=(E8 (s:=s) (p:=p) (s.size-(i+1)) (i+1) (by omega)).1;omega
theorem Lr {s:ByteArray} {p:Nat→Bool}:∀(k i j:Nat),i≤j→j<BX s p k i→j<s.size∧p (Ew s j)=true
 |0,i,j,h1,h2=>by
  have:BX s p 0 i=i:=rfl;omega
 |k+1,i,j,h1,h2=>by
  unfold BX at h2;by_cases hc:(decide (i<s.size)&&p (Ew s i))=true
  ·rw[Uo hc]at h2;rw[Bool.and_eq_true,decide_eq_true_iff]at hc;by_cases hij:i=j
   ·subst hij;exact hc
   exact Lr k (i+1) j (by omega) h2
  rw[Un hc]at h2;omega
def F2 (s:ByteArray) (i:Nat):Nat→Nat
 |0=>0
 |k+1=>F2 s i k*10+(Ew s (i+k)-48)
theorem JK (s:ByteArray) (i:Nat):∀(j k:Nat),j≤k→F2 s i j≤F2 s i k
 |j,0,h=>by rw[show j=0 by omega];exact Ua _
 |j,k+1,h=>by
  by_cases hj:j=k+1
  ·rw[hj];exact Ua _
  have:=JK s i j k (by omega);rw[show F2 s i (k+1)=F2 s i k*10+(Ew s (i+k)-48)from rfl];omega
structure Bw where
 kind:Nat
 text:ByteArray
 num:Nat
 off:Nat
def Bw.cells (t:Bw):List Value:=[.int .i64 (t.kind:Nat),.string t.text,.int .i64 (t.num:Nat),.int .i64 (t.off:Nat)]
def CP (s:ByteArray) (i:Nat):Nat:=
 if[43,45,42,47,40,41,123,125,44,46,64,61].contains (Ew s i)then 1
 else if(Ew s i=33∨Ew s i=94)∧i+1<s.size∧Ew s (i+1)=61 then 2 else 0
def Fj (s:ByteArray) (i:Nat):Option (Bw×Nat):=
 if Fd (Ew s i)then
  if BX s Ce (s.size-i) i-i≤16 then some (⟨0,s.extract i (BX s Ce (s.size-i) i),0,i⟩,BX s Ce (s.size-i) i)else none
 else if C4 (Ew s i)then
  if F2 s i (BX s C4 (s.size-i) i-i)≤1073741824 then some (⟨1,s.extract i (BX s C4 (s.size-i) i),F2 s i (BX s C4 (s.size-i) i-i),i⟩,BX s C4 (s.size-i) i)else none
 else if Ew s i=34 then none
 else if CP s i=0 then none else some (⟨3,s.extract i (i+CP s i),0,i⟩,i+CP s i)
def blank (c:Nat):Bool:=decide (c=9∨c=10∨c=13∨c=32)
def OI (s:ByteArray):Nat→Nat→Option (List Bw)
 |0,_=>none
 |k+1,i=>
  if i<s.size then
   if blank (Ew s i)then OI s k (i+1)
   else match Fj s i with
    |none=>none
    |some (t,j)=>match OI s k j with
     |none=>none
     |some ts=>some (t::ts)
  else some []
end Go.Proofs.YtkclnhpofkaclaaGreatDoor
