/- Words for memory that the proofs of this seat share: what a call keeps, blocks that are known whole, slices that read as lists. No condition. append on a row of the call's own, one cell an element: one element; a whole slice. -/
import Derived.WalkKit
import Derived.Laws.OwnMore
import Derived.Deep.Draws
import Derived.Deep.AppendLies
import Derived.Maps.AppendAt
import Derived.Lib.Hide
import Derived.KernelRfl
namespace Go.Proofs.YtgkmfblmkfclbaaGreatDoor
open Go.RowKit

/- what is not in S is kept -/
structure Keeps (S : Nat → Prop) (w w' : World) : Prop where
  os : w'.os = w.os
  tape : w'.tape = w.tape
  output : w'.output = w.output
  size : w.heap.size ≤ w'.heap.size
  block : ∀ k, k < w.heap.size → ¬ S k → w'.heap[k]? = w.heap[k]?

section
variable {S S' : Nat → Prop} {a w w' : World}
theorem Keeps.refl (S : Nat → Prop) (w : World) : Keeps S w w := ⟨rfl, rfl, rfl, Nat.le_refl _, fun _ _ _ => rfl⟩
theorem Keeps.then_ (h : Keeps S a w) (k : Keeps S' w w') (hs : ∀ i, i < a.heap.size → S' i → S i) : Keeps S a w' :=
  ⟨k.os.trans h.os, k.tape.trans h.tape, k.output.trans h.output, Nat.le_trans h.size k.size,
    fun i hi hn => (k.block i (Nat.lt_of_lt_of_le hi h.size) (fun e => hn (hs i hi e))).trans (h.block i hi hn)⟩
theorem Keeps.trans (h : Keeps S a w) (k : Keeps S w w') : Keeps S a w' := h.then_ k fun _ _ e => e
theorem Keeps.mono (h : Keeps S w w') (hs : ∀ i, i < w.heap.size → S i → S' i) : Keeps S' w w' :=
  ⟨h.os, h.tape, h.output, h.size, fun i hi hn => h.block i hi fun e => hn (hs i hi e)⟩
theorem Keeps.drew (h : Keeps S a w) : Keeps S a w.drew := ⟨h.os, h.tape, h.output, h.size, h.block⟩
theorem Keeps.drewN (h : Keeps S a w) (n : Nat) : Keeps S a (w.drewN n) := ⟨h.os, h.tape, h.output, h.size, h.block⟩
theorem Keeps.alloc (h : Keeps S a w) (o : Obj) : Keeps S a (w.alloc o) :=
  ⟨h.os, h.tape, h.output, Nat.le_trans h.size (by simp), fun i hi hn => (Below.heap_alloc w o i (Nat.lt_of_lt_of_le hi h.size)).trans (h.block i hi hn)⟩
theorem Keeps.setCell (h : Keeps S a w) {p : Addr} (hp : S p.block ∨ a.heap.size ≤ p.block) (u : Value) : Keeps S a (w.setCell p u) :=
  ⟨h.os, h.tape, h.output, by simpa [World.setCell] using h.size, fun i hi hn => (Below.heap_setCell w p u i (by
    rintro rfl
    rcases hp with hp | hp
    · exact hn hp
    · omega)).trans (h.block i hi hn)⟩
theorem Keeps.grown (h : Keeps S a w) {row : Option Nat} (hg : w.grownBy w' row) (hr : ∀ k, row = some k → k < a.heap.size → S k) : Keeps S a w' :=
  h.then_ (S' := fun i => row = some i) ⟨hg.os, hg.tape, hg.output, hg.size, fun i hi hn => hg.block i hi fun e => hn e.symm⟩ (fun i hi e => hr i e hi)
theorem Keeps.below (h : Keeps S w w') {B : Nat} (hB : B ≤ w.heap.size) (hs : ∀ i, S i → B ≤ i) : Below B w w' :=
  ⟨h.os, h.tape, h.output, h.size, fun i hi => h.block i (by omega) fun e => by have := hs i e; omega⟩
theorem Keeps.of_below {B : Nat} (h : Below B w w') (hs : ∀ i, i < w.heap.size → B ≤ i → S i) : Keeps S w w' :=
  ⟨h.os, h.tape, h.output, h.size, fun i hi hn => h.block i (by
    rcases Nat.lt_or_ge i B with h1 | h1
    · exact h1
    · exact absurd (hs i hi h1) hn)⟩
/- nothing old has turned -/
def Grew (w w' : World) : Prop := Keeps (fun _ => False) w w'
theorem Grew.below (h : Grew w w') : Below w.heap.size w w' := Keeps.below h (Nat.le_refl _) (fun _ e => e.elim)
theorem Grew.of_below (h : Below w.heap.size w w') : Grew w w' := Keeps.of_below h (fun i hi hB => by omega)
theorem Grew.refl (w : World) : Grew w w := Keeps.refl _ _
theorem Grew.trans (h : Grew a w) (k : Grew w w') : Grew a w' := Keeps.trans h k
theorem Keeps.grew (h : Keeps S a w) (k : Grew w w') : Keeps S a w' := h.then_ k fun _ _ e => e.elim
theorem Grew.keeps (k : Grew a w) : Keeps S a w := Keeps.mono k fun _ _ e => e.elim
end

/- a block that is known whole -/
def Box (w : World) (g : Nat) (t : TypeId) (cs : Array Value) : Prop := w.heap[g]? = some (.cells cs t (0, 0))
section
variable {w w' : World} {g : Nat} {t : TypeId} {cs : Array Value} {S : Nat → Prop}
theorem Box.lt (h : Box w g t cs) : g < w.heap.size := by
  rcases Nat.lt_or_ge g w.heap.size with hlt | hge
  · exact hlt
  · unfold Box at h; rw [Array.getElem?_eq_none hge] at h; cases h
theorem Box.cell (h : Box w g t cs) (i : Nat) : w.cell? ⟨g, i, none⟩ = cs[i]? := by unfold Box at h; simp [World.cell?, h]
theorem Box.frozen (h : Box w g t cs) (i : Nat) : w.frozen? ⟨g, i, none⟩ = false := by unfold Box at h; simp [World.frozen?, h]
theorem Box.new (w : World) (t : TypeId) (cs : Array Value) : Box (w.alloc (.cells cs t)) w.heap.size t cs := by
  unfold Box; show (w.heap.push _)[w.heap.size]? = _; simp
theorem Box.keep (h : Box w g t cs) (hk : Keeps S w w') (hg : ¬ S g) : Box w' g t cs := (hk.block g h.lt hg).trans h
theorem Box.grew (h : Box w g t cs) (hk : Grew w w') : Box w' g t cs := h.keep hk fun e => e
theorem Box.drew (h : Box w g t cs) : Box w.drew g t cs := h
theorem Box.drewN (h : Box w g t cs) (n : Nat) : Box (w.drewN n) g t cs := h
theorem Box.alloc (h : Box w g t cs) (o : Obj) : Box (w.alloc o) g t cs := (Below.heap_alloc w o g h.lt).trans h
theorem Box.set_ (h : Box w g t cs) (i : Nat) (u : Value) : Box (w.setCell ⟨g, i, none⟩ u) g t (cs.setIfInBounds i u) := by
  unfold Box at h ⊢
  simp [World.setCell, Array.getElem?_modify, h]
theorem Box.far (h : Box w g t cs) {p : Addr} (hp : g ≠ p.block) (u : Value) : Box (w.setCell p u) g t cs := (Below.heap_setCell w p u g hp).trans h
theorem Box.ne_ {g' : Nat} {t' : TypeId} {cs' : Array Value} (h : Box w g t cs) (h' : Box w g' t' cs') (hne : t ≠ t') : g ≠ g' := by
  rintro rfl
  unfold Box at h h'
  rw [h] at h'
  injection h' with h'
  injection h' with _ ht
  exact hne ht
end

/- a row of the call's own, one cell an element: the slice value v holds xs; its block is from base on -/
def Mine (w : World) (base : Nat) (e : TypeId) (v : Value) (xs : List Value) : Prop := w.ownsRow base e 1 v xs.length xs
section
variable {w w' : World} {base : Nat} {e : TypeId} {v : Value} {xs : List Value} {S : Nat → Prop}
theorem Mine.nil (w : World) (base : Nat) (e : TypeId) : Mine w base e (.slice none 0 0) [] := World.ownsRow_nil _ _ _ _
theorem Mine.lt (h : Mine w base e v xs) : ∀ k, v.ownBlock = some k → base ≤ k ∧ k < w.heap.size := World.ownsRow.lt h
theorem Mine.keep (h : Mine w base e v xs) (hk : Keeps S w w') (hv : ∀ k, v.ownBlock = some k → ¬ S k) : Mine w' base e v xs := by
  obtain ⟨h1, h2⟩ := h
  refine ⟨h1, ?_⟩
  rcases h2 with h2 | ⟨g, cap, cur, rfl, hg, hh, r⟩
  · exact .inl h2
  · have hlt : g < w.heap.size := by
      rcases Nat.lt_or_ge g w.heap.size with hlt | hge
      · exact hlt
      · rw [Array.getElem?_eq_none hge] at hh; cases hh
    exact .inr ⟨g, cap, cur, rfl, hg, (hk.block g hlt (hv g rfl)).trans hh, r⟩
theorem Mine.grew (h : Mine w base e v xs) (hk : Grew w w') : Mine w' base e v xs := h.keep hk fun _ _ e => e
theorem Mine.drew (h : Mine w base e v xs) : Mine w.drew base e v xs := h
theorem Mine.alloc (h : Mine w base e v xs) (o : Obj) : Mine (w.alloc o) base e v xs := World.ownsRow.alloc h o
/- its form -/
theorem Mine.form (h : Mine w base e v xs) : (v = .slice none 0 0 ∧ xs = []) ∨
    ∃ g cap cur, v = .slice (some ⟨g, 0, none⟩) xs.length cap ∧ base ≤ g ∧ Box w g e cur ∧ xs.length ≤ cap ∧ cap ≤ maxLen ∧ cur.size = cap ∧ cur.toList.take xs.length = xs := by
  obtain ⟨h1, h2⟩ := h
  rcases h2 with ⟨rfl, h2⟩ | ⟨g, cap, cur, rfl, hg, hh, h3, h4, h5, h6⟩
  · exact .inl ⟨rfl, List.eq_nil_of_length_eq_zero h2⟩
  · exact .inr ⟨g, cap, cur, rfl, hg, hh, h3, h4, by omega, by simpa using h6⟩
theorem Mine.mk' {g cap : Nat} {cur : Array Value} (hg : base ≤ g) (hb : Box w g e cur) (h1 : xs.length ≤ cap) (h2 : cap ≤ maxLen) (h3 : cur.size = cap) (h4 : cur.toList.take xs.length = xs) :
    Mine w base e (.slice (some ⟨g, 0, none⟩) xs.length cap) xs :=
  ⟨by simp, .inr ⟨g, cap, cur, rfl, hg, hb, h1, h2, by omega, by simpa using h4⟩⟩
theorem Mine.base_le {base' : Nat} (h : Mine w base e v xs) (hb : base' ≤ base) : Mine w base' e v xs := by
  obtain ⟨h1, h2⟩ := h
  refine ⟨h1, ?_⟩
  rcases h2 with h2 | ⟨g, cap, cur, hv, hg, r⟩
  · exact .inl h2
  · exact .inr ⟨g, cap, cur, hv, Nat.le_trans hb hg, r⟩
/- a store into it -/
theorem Mine.store (h : Mine w base e v xs) {g : Nat} (hg : v.ownBlock = some g) {i : Nat} (_ : i < xs.length) (u : Value) :
    Mine (w.setCell ⟨g, i, none⟩ u) base e v (xs.set i u) := by
  rcases h.form with ⟨rfl, _⟩ | ⟨g', cap, cur, rfl, hb, hbox, h1, h2, h3, h4⟩
  · cases hg
  · have : g' = g := by simpa [Value.ownBlock] using hg
    subst this
    have hl : (xs.set i u).length = xs.length := by simp
    rw [← hl]
    refine Mine.mk' (cur := cur.setIfInBounds i u) hb (hbox.set_ i u) (by omega) h2 (by simpa using h3) ?_
    rw [hl, Array.toList_setIfInBounds, List.take_set, h4]
end

theorem Mine.ne_box {w : World} {base : Nat} {e t : TypeId} {v : Value} {xs : List Value} {g k : Nat} {cs : Array Value} (h : Mine w base e v xs) (hv : v.ownBlock = some k) (hb : Box w g t cs) (hne : e ≠ t) : k ≠ g := by
  rcases h.form with ⟨rfl, _⟩ | ⟨g', cap, cur, rfl, _, hbox, _⟩
  · cases hv
  · have : g' = k := by simpa [Value.ownBlock] using hv
    subst this
    exact hbox.ne_ hb hne
theorem Mine.far {w : World} {base : Nat} {e : TypeId} {v : Value} {xs : List Value} (h : Mine w base e v xs) {p : Addr} (hp : v.ownBlock ≠ some p.block) (u : Value) : Mine (w.setCell p u) base e v xs :=
  h.keep (S := fun i => i = p.block) ((Keeps.refl (fun i => i = p.block) w).setCell (p := p) (.inl rfl) u) (fun k hk e => by subst e; exact hp hk)

/- a slice of one-cell elements that reads as a list; below block B -/
def Rd (w : World) (B : Nat) (v : Value) (xs : List Value) : Prop :=
  ∃ A c, v = .slice A xs.length c ∧ xs.length ≤ c ∧ (0 < xs.length → ∃ ad, A = some ad ∧ ad.block < B ∧ ∀ j u, xs[j]? = some u → w.cell? (ad.add j) = some u)
section
variable {w w' : World} {B B' : Nat} {v : Value} {xs : List Value} {S : Nat → Prop}
theorem block_add (a : Addr) (n : Nat) : (a.add n).block = a.block := by unfold Addr.add; split <;> rfl
theorem Rd.keep (h : Rd w B v xs) (hB : B ≤ w.heap.size) (hk : Keeps S w w') (hs : ∀ i, i < B → ¬ S i) : Rd w' B v xs := by
  obtain ⟨A, c, hv, hc, hx⟩ := h
  refine ⟨A, c, hv, hc, fun hn => ?_⟩
  obtain ⟨ad, e, hb, hcell⟩ := hx hn
  refine ⟨ad, e, hb, fun j u hu => (World.cell?_of_block ?_).trans (hcell j u hu)⟩
  rw [block_add]
  exact hk.block _ (by omega) (hs _ hb)
theorem Rd.grew (h : Rd w B v xs) (hB : B ≤ w.heap.size) (hk : Grew w w') : Rd w' B v xs := h.keep hB hk fun _ _ e => e
theorem Rd.more (h : Rd w B v xs) (hB : B ≤ B') : Rd w B' v xs := by
  obtain ⟨A, c, hv, hc, hx⟩ := h
  refine ⟨A, c, hv, hc, fun hn => ?_⟩
  obtain ⟨ad, e, hb, hcell⟩ := hx hn
  exact ⟨ad, e, by omega, hcell⟩
/- the value written out; what stands in its place -/
theorem Rd.form (h : Rd w B v xs) : ∃ A n c, v = .slice A n c ∧ n = xs.length ∧ n ≤ c := by
  obtain ⟨A, c, rfl, hc, _⟩ := h
  exact ⟨A, _, c, rfl, rfl, hc⟩
theorem Rd.nil_of {n c : Nat} (h : Rd w B (.slice none n c) xs) : xs = [] := by
  obtain ⟨A, c', hv, _, hx⟩ := h
  injection hv with hA
  subst hA
  rcases xs with _ | ⟨y, ys⟩
  · rfl
  · obtain ⟨ad, h, _⟩ := hx (by simp)
    cases h
/- the cell of an element -/
theorem Rd.at_ {A : Option Addr} {n c j : Nat} (h : Rd w B (.slice A n c) xs) (hj : j < xs.length) : ∃ ad u, A = some ad ∧ ad.block < B ∧ xs[j]? = some u ∧ w.cell? (ad.add j) = some u := by
  obtain ⟨A', c', hv, _, hx⟩ := h
  injection hv with hA
  subst hA
  obtain ⟨ad, rfl, hb, hc⟩ := hx (by omega)
  exact ⟨ad, xs[j], rfl, hb, List.getElem?_eq_getElem hj, hc j _ (List.getElem?_eq_getElem hj)⟩
theorem Rd.alloc (h : Rd w B v xs) (hB : B ≤ w.heap.size) (o : Obj) : Rd (w.alloc o) B v xs := h.grew hB ((Keeps.refl _ w).alloc o)
theorem Rd.drew (h : Rd w B v xs) : Rd w.drew B v xs := h
theorem Mine.rd {base : Nat} {e : TypeId} (h : Mine w base e v xs) : Rd w w.heap.size v xs := by
  rcases h.form with ⟨rfl, rfl⟩ | ⟨g, cap, cur, rfl, hb, hbox, h1, h2, h3, h4⟩
  · exact ⟨none, 0, rfl, Nat.le_refl _, fun h => absurd h (by simp)⟩
  · refine ⟨_, cap, rfl, h1, fun _ => ⟨⟨g, 0, none⟩, rfl, hbox.lt, fun j u hu => ?_⟩⟩
    have hj : j < xs.length := (List.getElem?_eq_some_iff.1 hu).1
    have e1 : (⟨g, 0, none⟩ : Addr).add j = ⟨g, j, none⟩ := by unfold Addr.add; split <;> simp_all
    rw [e1, hbox.cell, ← Array.getElem?_toList, ← hu, ← h4, List.getElem?_take, if_pos (by simpa [h4] using hj)]
end
end Go.Proofs.YtgkmfblmkfclbaaGreatDoor
namespace Go.Proofs.YtgkmfblmkfclbaaGreatDoor
open Go.RowKit

/- a slice type t of elements e: one cell each, of so many bytes, its zero value z -/
structure SlT (P : Program) (t e : TypeId) (bytes : Nat) (z : Value) : Prop where
  under : P.underlying t = some (.slice e)
  info : (P.info? e).map (fun i => (i.zero, i.size, i.bytes)) = some (some z, 1, bytes)
  cells : z.cells.size = 1
  small : bytes ≤ 64

section
variable {P : Program} {t e : TypeId} {bytes : Nat} {z : Value} {w : World} {base : Nat} {v : Value} {xs : List Value}

theorem run_app (T : SlT P t e bytes z) (ty : TypeId) (hown : Mine w base e v xs) {B : Nat} {sv : Value} {ys : List Value} (hr : Rd w B sv ys) (h1 : ∀ u ∈ ys, u.oneCell' = true)
    (hn : xs.length + ys.length ≤ 1099511627776) (hbase : base ≤ w.heap.size) :
    ∃ v' w', (Builtin.append_ #[t, t] ty #[v, sv]).run P w = .ok v' w' ∧ Mine w' base e v' (xs ++ ys) ∧ Keeps (fun i => v.ownBlock = some i) w w' ∧
      (v'.ownBlock = v.ownBlock ∨ v'.ownBlock = some w.heap.size) := by
  obtain ⟨i, hi, hz, hs, hby⟩ := info_parts T.info
  obtain ⟨A, c, rfl, hc, hx⟩ := hr
  have hb64 := T.small
  rcases A with _ | ad
  · have hy : ys = [] := by
      rcases ys with _ | ⟨y, ys⟩
      · rfl
      · obtain ⟨ad, h, _⟩ := hx (by simp)
        cases h
    subst hy
    refine ⟨v, w, ?_, by simpa using hown, Keeps.refl _ _, .inl rfl⟩
    rcases hown.2 with ⟨rfl, h0⟩ | ⟨g, cap, cur, rfl, _, _, hnc, _⟩
    · have : xs = [] := List.eq_nil_of_length_eq_zero h0
      subst this
      simp [Builtin.append_, run_underlying T.under, sizeOf, typeInfo, hi, Builtin.lenOf, Builtin.firstCells]
    · simp [Builtin.append_, run_underlying T.under, sizeOf, typeInfo, hi, Builtin.lenOf, Builtin.firstCells, hnc, storeCells]
  · have hcells : ∀ j u, ys[j]? = some u → w.cell? (ad.add j) = some u := by
      intro j u hu
      rcases ys with _ | ⟨y, ys⟩
      · simp at hu
      · obtain ⟨ad', h, _, hc⟩ := hx (by simp)
        injection h with h
        subst h
        exact hc j u hu
    have hm : (xs.length + ys.length) * bytes ≤ 140737488355328 := by
      have := Nat.mul_le_mul hn hb64
      omega
    obtain ⟨v', w', hrun, h2, h3, _, h5⟩ := run_append_own_at (P := P) w base t ty e i z 1 bytes T.under hi hz hs hby T.cells (by decide) v xs.length xs hown ad ys.length c ys (by simp) hcells h1 (by unfold maxLen; omega) hm hbase
    refine ⟨v', w', hrun, ?_, (Keeps.refl _ w).grown h3 (fun k e _ => e), h5⟩
    unfold Mine
    rw [List.length_append]
    exact h2

theorem app_any {ops : Array Oper} {rest : List Oper} {o : Oper} {a : Act} {Q : Exit → Act → World → Prop} (T : SlT P t e bytes z) (hgd : o.guard = none) (s x : Operand)
    (ho : o.op = .call { callee := .builtin .append, args := #[s, x], argTypes := #[t, t] })
    (hs : a.eval s = v) (hown : Mine w base e v xs) {B : Nat} {sv : Value} {ys : List Value} (hx : a.eval x = sv) (hr : Rd w B sv ys) (h1 : ∀ u ∈ ys, u.oneCell' = true)
    (hn : xs.length + ys.length ≤ 1099511627776) (hbase : base ≤ w.heap.size)
    (h : ∀ A m cap w', (xs ++ ys).length = m → Mine w' base e (.slice A m cap) (xs ++ ys) → Keeps (fun i => v.ownBlock = some i) w w' →
      ((Value.slice A m cap).ownBlock = v.ownBlock ∨ (Value.slice A m cap).ownBlock = some w.heap.size) → wpList P ops Q rest (a.put o.dst (.slice A m cap)) w') : wpList P ops Q (o :: rest) a w := by
  refine wpList_plain hgd fun K hK => ?_
  obtain ⟨v', w', hrun, h2, h3, h4⟩ := run_app (P := P) T o.type hown hr h1 hn hbase
  unfold Oper.wp execOp
  simp only [ho, resolve, invoke, builtin, Sem.run_bind, Sem.run_pure, Result.andThen_ok, List.map_toArray, List.map_cons, List.map_nil, hs, hx, hrun]
  rcases h2.form with ⟨rfl, hh⟩ | ⟨g, cap, cur, rfl, _⟩
  · rw [hh] at h2
    exact hK _ _ (h none 0 0 w' (by rw [hh]; rfl) (by rw [hh]; exact h2) h3 h4)
  · exact hK _ _ (h _ _ cap w' rfl h2 h3 h4)

/- the same in a region that draws its order -/
theorem step_app {ops : Array Oper} {o : Oper} {a : Act} {K : Act → World → Prop} {Q : Exit → Act → World → Prop} {E : Prop} (T : SlT P t e bytes z) (hgd : o.guard = none) (s x : Operand)
    (ho : o.op = .call { callee := .builtin .append, args := #[s, x], argTypes := #[t, t] })
    (hs : a.eval s = v) (hown : Mine w base e v xs) {B : Nat} {sv : Value} {ys : List Value} (hx : a.eval x = sv) (hr : Rd w B sv ys) (h1 : ∀ u ∈ ys, u.oneCell' = true)
    (hn : xs.length + ys.length ≤ 1099511627776) (hbase : base ≤ w.heap.size)
    (h : ∀ A m cap w', (xs ++ ys).length = m → Mine w' base e (.slice A m cap) (xs ++ ys) → Keeps (fun i => v.ownBlock = some i) w w' →
      ((Value.slice A m cap).ownBlock = v.ownBlock ∨ (Value.slice A m cap).ownBlock = some w.heap.size) → K (a.put o.dst (.slice A m cap)) w') :
    if Region.wanted o (yielded ops a.tmps) = true then Oper.wp P o a w K Q else E := by
  have hw : Region.wanted o (yielded ops a.tmps) = true := by simp [Region.wanted, hgd]
  rw [if_pos hw]
  obtain ⟨v', w', hrun, h2, h3, h4⟩ := run_app (P := P) T o.type hown hr h1 hn hbase
  unfold Oper.wp execOp
  simp only [ho, resolve, invoke, builtin, Sem.run_bind, Sem.run_pure, Result.andThen_ok, List.map_toArray, List.map_cons, List.map_nil, hs, hx, hrun]
  rcases h2.form with ⟨rfl, hh⟩ | ⟨g, cap, cur, rfl, _⟩
  · rw [hh] at h2
    exact h none 0 0 w' (by rw [hh]; rfl) (by rw [hh]; exact h2) h3 h4
  · exact h _ _ cap w' rfl h2 h3 h4

/- one element: it lies in a block of its own -/
theorem app_one {ops : Array Oper} {rest : List Oper} {o : Oper} {a : Act} {Q : Exit → Act → World → Prop} (T : SlT P t e bytes z) (hgd : o.guard = none) (s x : Operand)
    (ho : o.op = .call { callee := .builtin .append, args := #[s, x], argTypes := #[t, t] })
    (hs : a.eval s = v) (hown : Mine w base e v xs) (g c : Nat) (u : Value) (hx : a.eval x = .slice (some ⟨g, 0, none⟩) 1 c) (hc1 : 1 ≤ c) (hg : g < w.heap.size) (hu : w.cell? ⟨g, 0, none⟩ = some u) (h1 : u.oneCell' = true)
    (hn : xs.length < 1099511627776) (hbase : base ≤ w.heap.size)
    (h : ∀ r cap w', Mine w' base e (.slice (some ⟨r, 0, none⟩) (xs.length + 1) cap) (xs ++ [u]) → Keeps (fun i => v.ownBlock = some i) w w' →
      (some r = v.ownBlock ∨ r = w.heap.size) → base ≤ r → r < w'.heap.size → wpList P ops Q rest (a.put o.dst (.slice (some ⟨r, 0, none⟩) (xs.length + 1) cap)) w') : wpList P ops Q (o :: rest) a w := by
  have hr : Rd w w.heap.size (.slice (some ⟨g, 0, none⟩) 1 c) [u] := by
    refine ⟨_, c, rfl, hc1, fun _ => ⟨_, rfl, hg, fun j u' hu' => ?_⟩⟩
    match j, hu' with
    | 0, hu' => simp at hu'; subst hu'; simpa [Addr.add] using hu
  refine app_any T hgd s x ho hs hown hx hr (by intro u' hu'; simp at hu'; subst hu'; exact h1) (by simp; omega) hbase ?_
  intro A m cap w' hm h2 h3 h4
  rcases h2.form with ⟨_, hh⟩ | ⟨g', cap', cur, hv, hb, hbox, _⟩
  · simp at hh
  · injection hv with hv1 hv2 hv3
    subst hv1 hv2 hv3
    simp only [List.length_append, List.length_singleton] at h2 h4 ⊢
    refine h g' cap w' h2 h3 ?_ hb hbox.lt
    rcases h4 with h4 | h4
    · exact .inl h4
    · right; simpa [Value.ownBlock] using h4
end
end Go.Proofs.YtgkmfblmkfclbaaGreatDoor
