/- claims.Bands: only its error counts. -/
import Derived.Test.YtgkmfblmkfclbaaGreatDoorBlockSoundP25
import Derived.Test.YtgkmfblmkfclbaaGreatDoorBlockSoundP28
import Derived.Test.YtgkmfblmkfclbaaGreatDoorBlockSoundP34
import Derived.Deep.RegionHeld3
import Derived.Deep.DrawnRows
import Derived.Deep.DeepCutAuto
namespace Go.Proofs.YtgkmfblmkfclbaaGreatDoor
open Go.RowKit Pl

/- Repeat of one number that lies in a cell -/
theorem rep_at (y : Int) (b N : Nat) (W : World) (hc : W.cell? ⟨b, 0, none⟩ = some (.int .i64 y)) (hb : b < W.heap.size) (hN : N ≤ 100000) (h1 : 1 ≤ N) :
    Calls Tryz.prog 49 #[.slice (some ⟨b, 0, none⟩) 1 1, .int .i64 (N : Nat)] W fun e w' => ∃ g c, e = .returned (.slice (some ⟨g, 0, none⟩) N c) ∧ Mine w' W.heap.size 3 (.slice (some ⟨g, 0, none⟩) N c) ((List.replicate N y).map vi) ∧ Grew W w' := by
  have hr : Rd W W.heap.size (.slice (some ⟨b, 0, none⟩) 1 1) [vi y] := ⟨_, 1, rfl, Nat.le_refl _, fun _ => ⟨_, rfl, hb, fun j u hu => by
    match j, hu with
    | 0, hu =>
      have e : vi y = u := by simpa using hu
      subst e
      simpa [Addr.add, vi] using hc⟩⟩
  refine (repeat_any _ y N W hr hN).mono ?_
  rintro e w' ⟨v, rfl, hm, hg⟩
  rcases hm.form with ⟨rfl, h⟩ | ⟨g, cap, cur, rfl, -⟩
  · rw [List.replicate_eq_nil_iff] at h; omega
  · simp only [List.length_replicate] at hm ⊢
    exact ⟨g, cap, rfl, by rw [List.map_replicate]; exact hm, hg⟩
/- the two rows, the array that holds them, the declaration's box -/
structure BnS (w wr : World) (h g1 g2 gd N c1 c2 : Nat) (nm : ByteArray) (A : Option Addr) (n c : Nat) (x : Fin 10 → Int) (e : EnvL) : Prop where
  lo : Mine wr w.heap.size 3 (.slice (some ⟨g1, 0, none⟩) N c1) (e.1.map vi)
  hi : Mine wr w.heap.size 3 (.slice (some ⟨g2, 0, none⟩) N c2) (e.2.map vi)
  ne : g1 ≠ g2
  dbox : Box wr gd 27 (cells12 nm (.slice A n c) x).toArray
  arr : Box wr h 89 #[.slice (some ⟨g1, 0, none⟩) N c1, .slice (some ⟨g2, 0, none⟩) N c2]
  grew : Grew w wr
theorem have_of {P Q : Prop} (h : P) (k : P → Q) : Q := k h
theorem bcell {W w1 : World} (hb : Below W.heap.size W w1) : (∀ b o, b < W.heap.size → w1.cell? ⟨b, o, none⟩ = W.cell? ⟨b, o, none⟩) ∧ (∀ b o, b < W.heap.size → w1.frozen? ⟨b, o, none⟩ = W.frozen? ⟨b, o, none⟩) :=
  ⟨fun b o h => hb.cell (p := ⟨b, o, none⟩) h, fun b o h => hb.frozen (p := ⟨b, o, none⟩) h⟩
theorem Grew.set_ {a w : World} (h : Grew a w) {g o : Nat} (hp : a.heap.size ≤ g) (u : Value) : Grew a (w.setCell ⟨g, o, none⟩ u) := Keeps.setCell h (p := ⟨g, o, none⟩) (.inr hp) u
theorem cell_old (w : World) (o : Obj) (b k : Nat) (h : b < w.heap.size) : (w.alloc o).cell? ⟨b, k, none⟩ = w.cell? ⟨b, k, none⟩ := World.cell?_of_block (Below.heap_alloc w o b h)
theorem cell_new (w : World) (cs : Array Value) (t : TypeId) (b k : Nat) (h : b = w.heap.size) : (w.alloc (.cells cs t)).cell? ⟨b, k, none⟩ = cs[k]? := by subst h; exact (Box.new w t cs).cell k
theorem cell_drew (w : World) (p : Addr) : w.drew.cell? p = w.cell? p := rfl
theorem Box.new_ (w : World) (t : TypeId) (cs : Array Value) {h : Nat} (e : h = w.heap.size) : Box (w.alloc (.cells cs t)) h t cs := by subst e; exact Box.new _ _ _
theorem Box.set2 {w : World} {h : Nat} {t : TypeId} {a b u v : Value} (hb : Box w h t #[a, b]) : Box ((w.setCell ⟨h, 0, none⟩ u).setCell ⟨h, 1, none⟩ v) h t #[u, v] := (hb.set_ 0 u).set_ 1 v
theorem bns_store {w X : World} {h g1 g2 gd N c1 c2 : Nat} {nm : ByteArray} {A : Option Addr} {n c : Nat} {x : Fin 10 → Int} {e : EnvL} {a b : Value} (hlo : Mine X w.heap.size 3 (.slice (some ⟨g1, 0, none⟩) N c1) (e.1.map vi)) (hhi : Mine X w.heap.size 3 (.slice (some ⟨g2, 0, none⟩) N c2) (e.2.map vi)) (hne : g1 ≠ g2) (hd : Box X gd 27 (cells12 nm (.slice A n c) x).toArray) (ha : Box X h 89 #[a, b]) (hg : Grew w X) (hh : w.heap.size ≤ h) :
    BnS w ((X.setCell ⟨h, 0, none⟩ (.slice (some ⟨g1, 0, none⟩) N c1)).setCell ⟨h, 1, none⟩ (.slice (some ⟨g2, 0, none⟩) N c2)) h g1 g2 gd N c1 c2 nm A n c x e := by
  have k : Keeps (fun i => i = h) X ((X.setCell ⟨h, 0, none⟩ (.slice (some ⟨g1, 0, none⟩) N c1)).setCell ⟨h, 1, none⟩ (.slice (some ⟨g2, 0, none⟩) N c2)) :=
    ((Keeps.refl (fun i => i = h) X).setCell (p := ⟨h, 0, none⟩) (.inl rfl) _).setCell (p := ⟨h, 1, none⟩) (.inl rfl) _
  exact ⟨hlo.keep k (fun i hi e => hlo.ne_box hi ha (by decide) e), hhi.keep k (fun i hi e => hhi.ne_box hi ha (by decide) e), hne, hd.keep k (hd.ne_ ha (by decide)), ha.set2, Keeps.then_ hg k (fun i hi e => by omega)⟩
theorem bns_alloc {w X : World} {g1 g2 gd N c1 c2 : Nat} {nm : ByteArray} {A : Option Addr} {n c : Nat} {x : Fin 10 → Int} {e : EnvL} (hlo : Mine X w.heap.size 3 (.slice (some ⟨g1, 0, none⟩) N c1) (e.1.map vi)) (hhi : Mine X w.heap.size 3 (.slice (some ⟨g2, 0, none⟩) N c2) (e.2.map vi)) (hne : g1 ≠ g2) (hd : Box X gd 27 (cells12 nm (.slice A n c) x).toArray) (hg : Grew w X) :
    BnS w (X.alloc (.cells #[.slice (some ⟨g1, 0, none⟩) N c1, .slice (some ⟨g2, 0, none⟩) N c2] 89)) X.heap.size g1 g2 gd N c1 c2 nm A n c x e :=
  ⟨hlo.alloc _, hhi.alloc _, hne, hd.alloc _, Box.new _ _ _, hg.alloc _⟩
section
variable {w wr w' : World} {h g1 g2 gd N c1 c2 : Nat} {nm : ByteArray} {A : Option Addr} {n c : Nat} {x : Fin 10 → Int} {e : EnvL}
theorem BnS.more (b : BnS w wr h g1 g2 gd N c1 c2 nm A n c x e) (k : Grew wr w') : BnS w w' h g1 g2 gd N c1 c2 nm A n c x e :=
  ⟨b.lo.grew k, b.hi.grew k, b.ne, b.dbox.grew k, b.arr.grew k, b.grew.trans k⟩
theorem BnS.len (b : BnS w wr h g1 g2 gd N c1 c2 nm A n c x e) : e.1.length = N ∧ e.2.length = N := by
  have p := b.lo.len
  have q := b.hi.len
  rw [List.length_map] at p q
  exact ⟨p.symm, q.symm⟩
theorem BnS.stLo (b : BnS w wr h g1 g2 gd N c1 c2 nm A n c x e) {k : Nat} {y : Int} (hm : Mine w' w.heap.size 3 (.slice (some ⟨g1, 0, none⟩) N c1) ((e.1.map vi).set k (.int .i64 y))) (hk : Keeps (fun i => i = g1) wr w') :
    BnS w w' h g1 g2 gd N c1 c2 nm A n c x (e.1.set k y, e.2) := by
  refine ⟨?_, b.hi.keep hk (fun i hi e => ?_), b.ne, b.dbox.keep hk (fun e => b.lo.ne_box rfl b.dbox (by decide) e.symm), b.arr.keep hk (fun e => b.lo.ne_box rfl b.arr (by decide) e.symm), Keeps.then_ b.grew hk (fun i hi e => by have := (b.lo.lt g1 rfl).1; omega)⟩
  · rw [List.map_set]; exact hm
  · have : g2 = i := by simpa [Value.ownBlock] using hi
    subst this
    exact b.ne e.symm
theorem BnS.stHi (b : BnS w wr h g1 g2 gd N c1 c2 nm A n c x e) {k : Nat} {y : Int} (hm : Mine w' w.heap.size 3 (.slice (some ⟨g2, 0, none⟩) N c2) ((e.2.map vi).set k (.int .i64 y))) (hk : Keeps (fun i => i = g2) wr w') :
    BnS w w' h g1 g2 gd N c1 c2 nm A n c x (e.1, e.2.set k y) := by
  refine ⟨b.lo.keep hk (fun i hi e => ?_), ?_, b.ne, b.dbox.keep hk (fun e => b.hi.ne_box rfl b.dbox (by decide) e.symm), b.arr.keep hk (fun e => b.hi.ne_box rfl b.arr (by decide) e.symm), Keeps.then_ b.grew hk (fun i hi e => by have := (b.hi.lt g2 rfl).1; omega)⟩
  · have : g1 = i := by simpa [Value.ownBlock] using hi
    subst this
    exact b.ne e
  · rw [List.map_set]; exact hm
theorem BnS.keepC (b : BnS w wr h g1 g2 gd N c1 c2 nm A n c x e) {v : Value} {cs : List Clm} (hm : MineC wr w.heap.size v cs) (hk : Keeps (fun i => v.ownBlock = some i) wr w') (hne : ∀ k, v.ownBlock = some k → k ≠ g1 ∧ k ≠ g2) : BnS w w' h g1 g2 gd N c1 c2 nm A n c x e :=
  ⟨b.lo.keep hk (fun i hi e => by
      have : g1 = i := by simpa [Value.ownBlock] using hi
      exact (hne i e).1 this.symm), b.hi.keep hk (fun i hi e => by
      have : g2 = i := by simpa [Value.ownBlock] using hi
      exact (hne i e).2 this.symm), b.ne, b.dbox.keep hk (fun e => hm.ne_box e b.dbox (by decide) rfl), b.arr.keep hk (fun e => hm.ne_box e b.arr (by decide) rfl), Keeps.then_ b.grew hk (fun i hi e => by have := (hm.lt i e).1; omega)⟩
theorem BnS.apart (b : BnS w wr h g1 g2 gd N c1 c2 nm A n c x e) {v : Value} {cs : List Clm} (hm : MineC wr w.heap.size v cs) : ∀ k, v.ownBlock = some k → k ≠ g1 ∧ k ≠ g2 := fun k hk => by
  rcases hm.form with ⟨rfl, _⟩ | ⟨g, cap, cur, rfl, _, hbox, _⟩
  · cases hk
  · have : g = k := by simpa [Value.ownBlock] using hk
    subst this
    exact ⟨fun e => b.lo.ne_box rfl hbox (by decide) e.symm, fun e => b.hi.ne_box rfl hbox (by decide) e.symm⟩
end
end Go.Proofs.YtgkmfblmkfclbaaGreatDoor
