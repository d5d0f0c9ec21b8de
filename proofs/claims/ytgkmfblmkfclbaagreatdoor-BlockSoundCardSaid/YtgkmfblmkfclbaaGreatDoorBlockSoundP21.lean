/- Pick; a declaration in a box of its own. -/
import Derived.Test.YtgkmfblmkfclbaaGreatDoorBlockSoundP20
namespace Go.Proofs.YtgkmfblmkfclbaaGreatDoor
open Go.RowKit Pl

def pickV (l : List Int) (i m : Nat) : Nat := if i < l.length then arnd (l.getD i 0) m else 0
theorem pickV_lt (l : List Int) (i m : Nat) (hm : 0 < m) : pickV l i m < m := by
  unfold pickV
  split
  · exact arnd_lt _ _ hm
  · exact hm
set_option maxHeartbeats 1600000 in
set_option maxRecDepth 100000 in
theorem pick_any (v : Value) (l : List Int) (i m : Nat) (w : World) (h : Rd w w.heap.size v (l.map vi)) (hi : ∀ x ∈ l, I64 x) (hl : l.length ≤ 1000000000000000) (_ : i ≤ 1000) (hm : 0 < m) (hm2 : m ≤ 1000) :
    Calls Tryz.prog 15 #[v, .int .i64 (i : Nat), .int .i64 (m : Nat)] w fun e w' => e = .returned (.int .i64 (pickV l i m : Nat)) ∧ w' = w := by
  obtain ⟨A, n, c, rfl, hn, hc⟩ := h.form
  rw [List.length_map] at hn
  by_cases hlt : i < n
  · have hpv : pickV l i m = arnd (l.getD i 0) m := by unfold pickV; rw [if_pos (by omega)]
    rw [hpv]
    clear hpv
    obtain ⟨ad, rfl, hadb, hcell⟩ := h.int_at (j := i) (by omega)
    have HA := Lib.hid (still_around (l.getD i 0) m w (getD_I64 hi i) hm (by omega))
    generalize l.getD i 0 = x at *
    generalize arnd x m = k at *
    have hnl : n ≤ 1000000000000000 := by omega
    have t0 : decide ((i : Int) < 0) = false := by simp
    have t1 : decide (n ≤ i) = false := by simp; omega
    have t2 : decide ((n : Int) ≤ (i : Int)) = false := by simp; omega
    clear h hn hi
    go_enter Tryz.func15, Tryz.ntmps15
    go_wp2_with fail
    refine HA.out.mono ?_
    rintro e w' ⟨rfl, hw'⟩
    rw [hw']; clear hw' w'
    go_wp2_with fail
    go_ret
    exact ⟨rfl, rfl⟩
  · have hpv : pickV l i m = 0 := by unfold pickV; rw [if_neg (by omega)]
    rw [hpv]
    clear hpv
    have hnl : n ≤ 1000000000000000 := by omega
    have t0 : decide ((i : Int) < 0) = false := by simp
    have t1 : decide (n ≤ i) = true := by simp; omega
    have t2 : decide ((n : Int) ≤ (i : Int)) = true := by simp; omega
    clear h hn hi
    go_enter Tryz.func15, Tryz.ntmps15
    go_wp2_with fail
    go_ret
    exact ⟨rfl, rfl⟩
/- twelve cells -/
def cells12 (nm : ByteArray) (v : Value) (x : Fin 10 → Int) : List Value :=
  [.string nm, v, .int .i64 (x 0), .int .i64 (x 1), .int .i64 (x 2), .int .i64 (x 3), .int .i64 (x 4), .int .i64 (x 5), .int .i64 (x 6), .int .i64 (x 7), .int .i64 (x 8), .int .i64 (x 9)]
theorem vdecl_cells (nm : ByteArray) (v : Value) (x : Fin 10 → Int) : vdecl nm v x = .agg (cells12 nm v x).toArray := rfl
theorem info12 : (Tryz.prog.info? 27).map (·.size) = some 12 := by kernel_rfl
section
variable {w : World} {g : Nat} {t : TypeId} {nm : ByteArray} {v : Value} {x : Fin 10 → Int}
theorem Box.there12 (h : Box w g t (cells12 nm v x).toArray) : w.there g 0 12 := by
  intro j hj
  refine ⟨?_, ?_⟩
  · rw [Nat.zero_add, h.cell]
    simp [cells12, hj]
  · rw [Nat.zero_add]; exact h.frozen j
theorem Box.range12 (h : Box w g t (cells12 nm v x).toArray) : w.rangeAt g 0 (cells12 nm v x) := fun j u hu => by
  rw [Nat.zero_add, h.cell]
  simpa using hu
theorem put12_keeps (w : World) (g : Nat) (xs : List Value) (hl : xs.length = 12) : Keeps (fun i => i = g) w (w.setCells g 0 xs) := by
  match xs, hl with
  | [x0, x1, x2, x3, x4, x5, x6, x7, x8, x9, xa, xb], _ =>
    show Keeps _ w ((((((((((((w.setCell ⟨g, 0, none⟩ _).setCell ⟨g, 1, none⟩ _).setCell ⟨g, 2, none⟩ _).setCell ⟨g, 3, none⟩ _).setCell ⟨g, 4, none⟩ _).setCell ⟨g, 5, none⟩ _).setCell ⟨g, 6, none⟩ _).setCell ⟨g, 7, none⟩ _).setCell ⟨g, 8, none⟩ _).setCell ⟨g, 9, none⟩ _).setCell ⟨g, 10, none⟩ _).setCell ⟨g, 11, none⟩ _)
    iterate 12 (refine Keeps.setCell (S := fun i => i = g) ?_ (.inl rfl) _)
    exact Keeps.refl _ _
set_option maxHeartbeats 3200000 in
theorem Box.put12 (h : Box w g t (cells12 nm v x).toArray) (nm' : ByteArray) (v' : Value) (x' : Fin 10 → Int) : Box (w.setCells g 0 (cells12 nm' v' x')) g t (cells12 nm' v' x').toArray := by
  have h1 := (((((((((((h.set_ 0 (.string nm')).set_ 1 v').set_ 2 (.int .i64 (x' 0))).set_ 3 (.int .i64 (x' 1))).set_ 4 (.int .i64 (x' 2))).set_ 5 (.int .i64 (x' 3))).set_ 6 (.int .i64 (x' 4))).set_ 7 (.int .i64 (x' 5))).set_ 8 (.int .i64 (x' 6))).set_ 9 (.int .i64 (x' 7))).set_ 10 (.int .i64 (x' 8))).set_ 11 (.int .i64 (x' 9))
  show Box ((((((((((((w.setCell ⟨g, 0, none⟩ _).setCell ⟨g, 1, none⟩ _).setCell ⟨g, 2, none⟩ _).setCell ⟨g, 3, none⟩ _).setCell ⟨g, 4, none⟩ _).setCell ⟨g, 5, none⟩ _).setCell ⟨g, 6, none⟩ _).setCell ⟨g, 7, none⟩ _).setCell ⟨g, 8, none⟩ _).setCell ⟨g, 9, none⟩ _).setCell ⟨g, 10, none⟩ _).setCell ⟨g, 11, none⟩ _) g t _
  simpa [cells12] using h1
def upd (x : Fin 10 → Int) (k : Nat) (n : Int) : Fin 10 → Int := fun i => if i.val = k then n else x i
theorem Box.put1d (h : Box w g t (cells12 nm v x).toArray) (k : Nat) (hk : k < 10) (n : Int) : Box (w.setCell ⟨g, k + 2, none⟩ (.int .i64 n)) g t (cells12 nm v (upd x k n)).toArray := by
  have h1 := h.set_ (k + 2) (.int .i64 n)
  have : k = 0 ∨ k = 1 ∨ k = 2 ∨ k = 3 ∨ k = 4 ∨ k = 5 ∨ k = 6 ∨ k = 7 ∨ k = 8 ∨ k = 9 := by omega
  rcases this with rfl | rfl | rfl | rfl | rfl | rfl | rfl | rfl | rfl | rfl <;> exact h1
section
variable {ops : Array Oper} {rest : List Oper} {o : Oper} {a : Act} {Q : Exit → Act → World → Prop}
theorem st1d (xo yo : Operand) (k : Nat) (hk : k < 10) (n : Int) (hgd : o.guard = none) (ho : o.op = .store 3 xo yo)
    (hx : a.eval xo = .pointer (some ⟨g, k + 2, none⟩)) (hy : a.eval yo = .int .i64 n) (hb : Box w g t (cells12 nm v x).toArray)
    (h : ∀ w', (∃ x', Box w' g t (cells12 nm v x').toArray) → Keeps (fun i => i = g) w w' → wpList Tryz.prog ops Q rest (a.put o.dst undef) w') : wpList Tryz.prog ops Q (o :: rest) a w := by
  have hu : ∃ u, (cells12 nm v x).toArray[k + 2]? = some u := ⟨(cells12 nm v x)[k + 2]'(by simp [cells12]; omega), by simp⟩
  obtain ⟨u, hu⟩ := hu
  have hc := (hb.cell (k + 2)).trans hu
  have hf := hb.frozen (k + 2)
  have hk' : Keeps (fun i => i = g) w (w.setCell ⟨g, k + 2, none⟩ (.int .i64 n)) := (Keeps.refl (fun i => i = g) w).setCell (p := ⟨g, k + 2, none⟩) (.inl rfl) _
  refine wpList_plain hgd fun K hK => ?_
  unfold Oper.wp execOp
  simp only [ho, hx, hy]
  go_simp
  exact hK _ _ (h _ ⟨_, hb.put1d k hk n⟩ hk')
theorem st12 (xo yo : Operand) (nm' : ByteArray) (A : Option Addr) (n c : Nat) (x' : Fin 10 → Int) (hgd : o.guard = none) (ho : o.op = .store 27 xo yo)
    (hx : a.eval xo = .pointer (some ⟨g, 0, none⟩)) (hy : a.eval yo = .agg (cells12 nm' (.slice A n c) x').toArray) (hb : Box w g t (cells12 nm v x).toArray)
    (h : ∀ w', Box w' g t (cells12 nm' (.slice A n c) x').toArray → Keeps (fun i => i = g) w w' → wpList Tryz.prog ops Q rest (a.put o.dst undef) w') : wpList Tryz.prog ops Q (o :: rest) a w := by
  refine wpList_store_mid hgd 27 xo yo ho g 0 (cells12 nm' (.slice A n c) x').toArray hx hy hb.there12 info12 ?_ ?_
  · simp [cells12, Value.oneCell']
  · exact h _ (hb.put12 nm' _ x') (put12_keeps w g _ rfl)
theorem ld12 (xo : Operand) (hgd : o.guard = none) (ho : o.op = .load 27 xo)
    (hx : a.eval xo = .pointer (some ⟨g, 0, none⟩)) (hb : Box w g t (cells12 nm v x).toArray)
    (h : wpList Tryz.prog ops Q rest (a.put o.dst (.agg (cells12 nm v x).toArray)) w) : wpList Tryz.prog ops Q (o :: rest) a w :=
  wpList_load_mid hgd 27 xo ho g 0 hx (cells12 nm v x) _ hb.range12 Tryz.underlying27 rfl info12 h
end
theorem results_cell12 {fn : Func} {p : Tmp} (h : fn.results = #[.cell p 27]) {tmps : Array Value} (hp : tmps.getD p undef = .pointer (some ⟨g, 0, none⟩)) (hb : Box w g t (cells12 nm v x).toArray) :
    (results fn tmps).run Tryz.prog w = .ok (vdecl nm v x) w := by
  have hl := run_loadVar_mid (P := Tryz.prog) w g 0 27 (cells12 nm v x) _ hb.range12 Tryz.underlying27 rfl info12
  simp only [results, h]
  rw [Array.getD_eq_getD_getElem?] at hp
  simp [hp, hl, asAddr, vdecl_cells]
end
end Go.Proofs.YtgkmfblmkfclbaaGreatDoor
