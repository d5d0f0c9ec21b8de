/- ref11.Walk: values whose changes are small. ref11.Inside: values whose changes are small, in the range as far as possible. -/
import Derived.Test.YtgkmfblmkfclbaaGreatDoorBlockSoundP23
import Derived.Test.YtgkmfblmkfclbaaGreatDoorBlockSoundP33
import Derived.Deep.QuietTactic
import Derived.BigQuiet
import Derived.Test.YtgkmfblmkfclbaaGreatDoorBlockSoundP25
import Derived.Laws.Cover1
import Derived.StillTailTactics
namespace Go.Proofs.YtgkmfblmkfclbaaGreatDoor
open Go.RowKit Pl

/- the numbers of a tiny declaration -/
structure TinyD (x : Fin 10 → Int) : Prop where
  lo : -9 ≤ x 3
  lo2 : x 3 ≤ 0
  hi : x 3 ≤ x 4
  hi2 : x 4 ≤ 16
  down : -3 ≤ x 5
  down2 : x 5 ≤ 1
  up : x 5 ≤ x 6
  up2 : x 6 ≤ 4
  first : 0 ≤ x 7
  first2 : x 7 ≤ 6
  last : x 7 ≤ x 8
  span : x 8 - x 7 ≤ 13
theorem declK_tiny (k0 k1 k2 k5 k6 k7 k8 : Nat) (h0 : k0 < 10) (h1 : k1 < 5) (h2 : k2 < 7) (h5 : k5 < 17) (h6 : k6 < 4) (h7 : k7 < 14) : TinyD (declK k0 k1 k2 k5 k6 k7 k8) := by
  constructor <;> simp [declK, upd, x100] <;> omega
/- values that move slowly -/
def Slow (xs : List Int) : Prop := ∀ j, j < xs.length → -(20 + 8 * (j : Int)) ≤ xs.getD j 0 ∧ xs.getD j 0 ≤ 20 + 8 * (j : Int)
theorem Slow.snoc {xs : List Int} (h : Slow xs) {y : Int} (h1 : -(20 + 8 * (xs.length : Int)) ≤ y) (h2 : y ≤ 20 + 8 * (xs.length : Int)) : Slow (xs ++ [y]) := fun j hj => by
  rcases Nat.lt_or_ge j xs.length with h3 | h3
  · rw [List.getD_eq_getElem?_getD, List.getElem?_append_left h3, ← List.getD_eq_getElem?_getD]; exact h j h3
  · obtain rfl : j = xs.length := by simp at hj; omega
    simp [List.getD_eq_getElem?_getD]
    exact ⟨by omega, by omega⟩
theorem Slow.set_ {xs : List Int} (h : Slow xs) {i : Nat} {y : Int} (h1 : -(20 + 8 * (i : Int)) ≤ y) (h2 : y ≤ 20 + 8 * (i : Int)) : Slow (xs.set i y) := fun j hj => by
  rw [List.length_set] at hj
  by_cases e : i = j
  · subst e
    rw [List.getD_eq_getElem?_getD, List.getElem?_set_self hj]
    exact ⟨h1, h2⟩
  · rw [List.getD_eq_getElem?_getD, List.getElem?_set_ne e, ← List.getD_eq_getElem?_getD]
    exact h j hj
def SlowPost (N : Nat) (w : World) (e : Ending) (w' : World) : Prop := ∃ A c xs, e = .returned (.slice A N c) ∧ Mine w' w.heap.size 3 (.slice A N c) (xs.map vi) ∧ xs.length = N ∧ Slow xs ∧ Grew w w'
/- Pick at integers -/
theorem pick_int (v : Value) (l : List Int) (i m : Int) (w : World) (h : Rd w w.heap.size v (l.map vi)) (hi : ∀ x ∈ l, I64 x) (hl : l.length ≤ 1000000000000000) (h0 : 0 ≤ i) (h1 : i ≤ 1000) (h2 : 0 < m) (h3 : m ≤ 1000) :
    Calls Tryz.prog 15 #[v, .int .i64 i, .int .i64 m] w fun e w' => e = .returned (.int .i64 (pickV l i.toNat m.toNat : Nat)) ∧ w' = w := by
  have := pick_any v l i.toNat m.toNat w h hi hl (by omega) (by omega) (by omega)
  rwa [Int.toNat_of_nonneg h0, Int.toNat_of_nonneg (by omega)] at this
theorem pick_lt (l : List Int) (i m : Int) (h : 0 < m) : ((pickV l i.toNat m.toNat : Nat) : Int) < m := by
  have := pickV_lt l i.toNat m.toNat (by omega)
  omega
/- the numbers of a declaration in a box -/
theorem dnums {w : World} {g : Nat} {nm : ByteArray} {v : Value} {x : Fin 10 → Int} (h : Box w g 27 (cells12 nm v x).toArray) : w.cell? ⟨g, 5, none⟩ = some (.int .i64 (x 3)) ∧ w.cell? ⟨g, 6, none⟩ = some (.int .i64 (x 4)) ∧ w.cell? ⟨g, 7, none⟩ = some (.int .i64 (x 5)) ∧ w.cell? ⟨g, 8, none⟩ = some (.int .i64 (x 6)) ∧ w.cell? ⟨g, 9, none⟩ = some (.int .i64 (x 7)) ∧ w.cell? ⟨g, 10, none⟩ = some (.int .i64 (x 8)) :=
  ⟨h.cell 5, h.cell 6, h.cell 7, h.cell 8, h.cell 9, h.cell 10⟩
set_option maxHeartbeats 6400000 in
set_option maxRecDepth 100000 in
theorem walk_any (nm : ByteArray) (A : Option Addr) (n c : Nat) (x : Fin 10 → Int) (v : Value) (l : List Int) (w : World) (hx : TinyD x) (h : Rd w w.heap.size v (l.map vi)) (hi : ∀ y ∈ l, I64 y) (hl : l.length ≤ 1000000000000000) :
    Calls Tryz.prog 45 #[vdecl nm (.slice A n c) x, v] w (SlowPost (spanD x) w) := by
  have HPk := Lib.hid (fun (i m : Int) (w' : World) (g : Grew w w') => pick_int v l i m w' ((h.grew (Nat.le_refl _) g).more g.size) hi hl)
  have HPL := Lib.hid (fun (i m : Int) => pick_lt l i m)
  have HSp := Lib.hid (show spanD x = (x 8 - x 7 + 1).toNat from rfl)
  obtain ⟨B, p, q, rfl, -, -⟩ := h.form
  obtain ⟨h3, h3', h4, h4', h5, h5', h6, h6', h7, h7', h8, h8'⟩ := hx
  have hbd : Box (w.alloc (.cells (cells12 nm (.slice A n c) x).toArray 27)) w.heap.size 27 (cells12 nm (.slice A n c) x).toArray := Box.new _ _ _
  have HBd := Lib.hid hbd
  have hG0 := (Grew.refl w).alloc (.cells (cells12 nm (.slice A n c) x).toArray 27)
  clear h hi hbd
  rw [vdecl_cells]
  go_enter Tryz.func45, Tryz.ntmps45
  go_upto_region 1 with fail
  generalize w.alloc (.cells (cells12 nm (.slice A n c) x).toArray 27) = w1 at *
  have HG0 := Lib.hid hG0
  have HP0 := Lib.hid (fun w' (g : Grew w w') => HPk.out 0 (x 4 - x 3 + 1) w' g (by omega) (by omega) (by omega) (by omega))
  have hk0 := HPL.out 0 (x 4 - x 3 + 1) (by omega)
  generalize pickV l (0 : Int).toNat (x 4 - x 3 + 1).toNat = k0 at *
  have s0 : IntKind.i64.wrap (x 4 - x 3) = x 4 - x 3 := IntWalk.i64_in _ (by omega)
  have s1 : IntKind.i64.wrap (x 4 - x 3 + 1) = x 4 - x 3 + 1 := IntWalk.i64_in _ (by omega)
  have s2 : IntKind.i64.wrap (x 3 + (k0 : Int)) = x 3 + (k0 : Int) := IntWalk.i64_in _ (by omega)
  obtain ⟨c3, c4, c5, c6, c7, c8⟩ := dnums HBd.out
  clear hG0
  go_quiet ((go_at_call 15; exact quietE (HP0.out _ (Keeps.drewN HG0.out _))))
  have hG1 : Grew w (w1.drewN nq) := Keeps.drewN HG0.out nq
  have hgz : Grew w1 (w1.drewN nq) := Keeps.drewN (Grew.refl w1) nq
  generalize w1.drewN nq = w2 at *
  clear c3 c4 c5 c6 c7 c8 s0 s1 s2 HP0
  have HBd2 := Lib.hid (HBd.out.grew hgz)
  obtain ⟨y0, hy0⟩ : ∃ y0, y0 = x 3 + (k0 : Int) := ⟨_, rfl⟩
  rw [← hy0]
  have hM2 : Mine (w2.alloc (.cells #[.int .i64 y0] 3)) w.heap.size 3 (.slice (some ⟨w2.heap.size, 0, none⟩) 1 1) ([y0].map vi) :=
    Mine.mk' (cur := #[.int .i64 y0]) hG1.size (Box.new w2 3 _) (Nat.le_refl _) (by unfold maxLen; simp) rfl rfl
  have HM2 := Lib.hid hM2
  have HG2 := Lib.hid (hG1.alloc (.cells #[.int .i64 y0] 3))
  have HZ2 := Lib.hid (HBd2.out.alloc (.cells #[.int .i64 y0] 3))
  have y1 : -20 ≤ y0 := by omega
  have y2 : y0 ≤ 20 := by omega
  have hsl : Slow [y0] := fun j hj => by
    obtain rfl : j = 0 := by simp at hj; omega
    simp; omega
  have HSl := Lib.hid hsl
  clear hy0 hM2 hG1 hgz hsl HBd HBd2
  go_upto_region 3 with fail
  generalize hg2 : w2.heap.size = g2 at *
  clear hg2
  generalize w2.alloc (.cells #[.int .i64 y0] 3) = w3 at *
  obtain ⟨c3, c4, c5, c6, c7, c8⟩ := dnums HZ2.out
  go_wp2_with fail
  go_loopw [5, 6, 7] (fun v o t wr => ∃ (j : Nat) (y z : Int) (C : Option Addr) (q : Nat) (xs : List Int), z = x 7 + (j : Int) ∧ z ≤ x 8 ∧ t = .int .i64 z ∧ v = .int .i64 y ∧ o = .slice C (j + 1) q ∧ Mine wr w.heap.size 3 (.slice C (j + 1) q) (xs.map vi) ∧ xs.length = j + 1 ∧ Slow xs ∧ -(20 + 8 * (j : Int)) ≤ y ∧ y ≤ 20 + 8 * (j : Int) ∧ Box wr w.heap.size 27 (cells12 nm (.slice A n c) x).toArray ∧ Grew w wr) (fun _ _ t _ => (x 8 - intOf t).toNat)
  case atStart => exact ⟨0, y0, x 7, _, 1, [y0], by simp, h8, rfl, rfl, rfl, HM2.out, rfl, HSl.out, by simpa using y1, by simpa using y2, HZ2.out, HG2.out⟩
  case round =>
    clear HM2 HSl HG2 HZ2 c3 c4 c5 c6 c7 c8
    obtain ⟨j, y, z, C, q2, xs, hz, hz8, rfl, rfl, rfl, hM, hxl, hS, y1, y2, hZ, hG⟩ := hrel
    obtain ⟨c3, c4, c5, c6, c7, c8⟩ := dnums hZ
    have HZ := Lib.hid hz
    have HM := Lib.hid hM
    have HXL := Lib.hid hxl
    have HS := Lib.hid hS
    have HG := Lib.hid hG
    have HZr := Lib.hid hZ
    have hj13 : (j : Int) ≤ 13 := by omega
    have z0 : 0 ≤ z := by omega
    have z1 : z ≤ 1000 := by omega
    by_cases hlt : z < x 8
    · have tt : decide (z < x 8) = true := by simpa using hlt
      have HP := Lib.hid (fun w' (g : Grew w w') => HPk.out ((j : Int) + 1) (x 6 - x 5 + 1) w' g (by omega) (by omega) (by omega) (by omega))
      have hk := HPL.out ((j : Int) + 1) (x 6 - x 5 + 1) (by omega)
      generalize pickV l ((j : Int) + 1).toNat (x 6 - x 5 + 1).toNat = k at *
      have s0 : IntKind.i64.wrap (x 6 - x 5) = x 6 - x 5 := IntWalk.i64_in _ (by omega)
      have s1 : IntKind.i64.wrap (x 6 - x 5 + 1) = x 6 - x 5 + 1 := IntWalk.i64_in _ (by omega)
      have s2 : IntKind.i64.wrap (y + x 5) = y + x 5 := IntWalk.i64_in _ (by omega)
      have s3 : IntKind.i64.wrap (y + x 5 + (k : Int)) = y + x 5 + (k : Int) := IntWalk.i64_in _ (by omega)
      have s4 : IntKind.i64.wrap (z - x 7) = (j : Int) := by rw [IntWalk.i64_in _ (by omega)]; omega
      have s5 : IntKind.i64.wrap ((j : Int) + 1) = (j : Int) + 1 := IntWalk.i64_in _ (by omega)
      clear hz hM hxl hS hG hZ
      go_wp2_with fail
      go_quiet ((go_at_call 15; exact quietE (HP.out _ (Keeps.drewN HG.out _))))
      have hMz : Mine (wr.drewN nq) w.heap.size 3 (.slice C (j + 1) q2) (xs.map vi) := HM.out
      have hGz : Grew w (wr.drewN nq) := Keeps.drewN HG.out nq
      have hZz : Box (wr.drewN nq) w.heap.size 27 (cells12 nm (.slice A n c) x).toArray := HZr.out.drewN nq
      generalize wr.drewN nq = w5 at *
      obtain ⟨y', hy'⟩ : ∃ y', y + x 5 + (k : Int) = y' := ⟨_, rfl⟩
      have y1' : -(20 + 8 * ((j : Int) + 1)) ≤ y' := by omega
      have y2' : y' ≤ 20 + 8 * ((j : Int) + 1) := by omega
      rw [hy']
      clear hy' s0 s1 s2 s3 s4 s5 c3 c4 c5 c6 c7 c8 hk HP HM HG HZr
      have hM1 := hMz.alloc (.cells #[.int .i64 y'] 3)
      have hG1 := hGz.alloc (.cells #[.int .i64 y'] 3)
      have hZ1 := hZz.alloc (.cells #[.int .i64 y'] 3)
      have hln : (xs.map vi).length < 1099511627776 := by rw [List.length_map, HXL.out]; omega
      go_wp2_with (at_builtin; refine app_one slInt rfl (.tmp 47) (.tmp 49) rfl rfl hM1 w5.heap.size 1 (.int .i64 y') rfl (Nat.le_refl _) (by simp) (by simp) rfl hln (by have := hG1.size; simpa using this) ?_; intro r6 cap6 w6 hM6 hk6 hr6 hbr6 hlr6; rw [List.length_map, HXL.out] at hM6 ⊢; have HG6 := Lib.hid (Grew.app hG1 hM1 hk6); have HZ6 := Lib.hid (hZ1.keep hk6 (fun e => hM1.ne_box e hZ1 (by decide) rfl)); clear hk6 hM1 hG1 hZ1 hMz hGz hZz hr6 hbr6 hlr6)
      have HM6 := Lib.hid (show Mine w6 w.heap.size 3 (.slice (some ⟨r6, 0, none⟩) (j + 1 + 1) cap6) ((xs ++ [y']).map vi) from by rw [List.map_append]; exact hM6)
      have HS6 := Lib.hid (HS.out.snoc (y := y') (by rw [HXL.out]; simpa using y1') (by rw [HXL.out]; simpa using y2'))
      clear hM6 hln HS
      go_roundw
      case rel => exact ⟨j + 1, y', z + 1, _, cap6, xs ++ [y'], by have := HZ.out; omega, by omega, by first | rfl | go_num, rfl, rfl, HM6.out, by rw [List.length_append, HXL.out]; rfl, HS6.out, by simpa using y1', by simpa using y2', HZ6.out, HG6.out⟩
      case measure => simp [intOf]; omega
    · have tt : decide (z < x 8) = false := by simpa using hlt
      have hsp : spanD x = j + 1 := by
        rw [HSp.out]; have := HZ.out; omega
      have HJ := Lib.hid hsp
      clear hsp hz hM hxl hS hG hZ
      go_wp2_with fail
      go_ret
      refine ⟨C, q2, xs, ?_, ?_, ?_, HS.out, HG.out⟩
      · rw [HJ.out]; rfl
      · rw [HJ.out]; exact HM.out
      · rw [HJ.out]; exact HXL.out
end Go.Proofs.YtgkmfblmkfclbaaGreatDoor
namespace Go.Proofs.YtgkmfblmkfclbaaGreatDoor
open Go.RowKit Pl

theorem Mine.int_cell {w : World} {base g m c : Nat} {xs : List Int} (h : Mine w base 3 (.slice (some ⟨g, 0, none⟩) m c) (xs.map vi)) {k : Nat} (hk : k < xs.length) : w.cell? ⟨g, k, none⟩ = some (.int .i64 (xs.getD k 0)) ∧ w.frozen? ⟨g, k, none⟩ = false := by
  obtain ⟨a, b⟩ := h.cell_at (k := k) (by rw [List.length_map]; exact hk)
  rw [List.getElem_map] at a
  rw [List.getD_eq_getElem?_getD, List.getElem?_eq_getElem hk]
  exact ⟨a, b⟩
theorem Mine.int_set {w : World} {base g m c : Nat} {xs : List Int} (h : Mine w base 3 (.slice (some ⟨g, 0, none⟩) m c) (xs.map vi)) {k : Nat} (hk : k < xs.length) (y : Int) : Mine (w.setCell ⟨g, k, none⟩ (.int .i64 y)) base 3 (.slice (some ⟨g, 0, none⟩) m c) ((xs.set k y).map vi) := by
  rw [List.map_set]
  exact h.store (g := g) rfl (by rw [List.length_map]; exact hk) _
structure InS (w wr : World) (g N q : Nat) (nm : ByteArray) (A : Option Addr) (n c : Nat) (x : Fin 10 → Int) (xs : List Int) : Prop where
  row : Mine wr w.heap.size 3 (.slice (some ⟨g, 0, none⟩) N q) (xs.map vi)
  len : xs.length = N
  slow : Slow xs
  box : Box wr w.heap.size 27 (cells12 nm (.slice A n c) x).toArray
  grew : Grew w wr
theorem ins_one (y V a4 a5 a6 : Int) (h1 : y + a5 ≤ V) (h2 : V ≤ y + a6) (h3 : -3 ≤ a5) (h4 : a6 ≤ 4) (h5 : a5 ≤ a6) : y - 8 ≤ (if (if y + a6 < if a4 < V then a4 else V then y + a6 else if a4 < V then a4 else V) < y + a5 then y + a5 else if y + a6 < if a4 < V then a4 else V then y + a6 else if a4 < V then a4 else V) ∧ (if (if y + a6 < if a4 < V then a4 else V then y + a6 else if a4 < V then a4 else V) < y + a5 then y + a5 else if y + a6 < if a4 < V then a4 else V then y + a6 else if a4 < V then a4 else V) ≤ y + 8 := by
  repeat' split
  all_goals omega
theorem ins_two (y a3 a5 a6 : Int) (h3 : -3 ≤ a5) (h4 : a6 ≤ 4) (h5 : a5 ≤ a6) : y - 8 ≤ (if y + a5 < (if y + a6 < a3 then y + a6 else a3) then (if y + a6 < a3 then y + a6 else a3) else y + a5) ∧ (if y + a5 < (if y + a6 < a3 then y + a6 else a3) then (if y + a6 < a3 then y + a6 else a3) else y + a5) ≤ y + 8 := by
  repeat' split
  all_goals omega
theorem InS.set_ {w wr : World} {g N q : Nat} {nm : ByteArray} {A : Option Addr} {n c : Nat} {x : Fin 10 → Int} {xs : List Int} (h : InS w wr g N q nm A n c x xs) {k : Nat} (hk : k < N) {y : Int} (h1 : -(20 + 8 * (k : Int)) ≤ y) (h2 : y ≤ 20 + 8 * (k : Int)) :
    InS w (wr.setCell ⟨g, k, none⟩ (.int .i64 y)).drew g N q nm A n c x (xs.set k y) := by
  have hk' : Keeps (fun i => i = g) wr (wr.setCell ⟨g, k, none⟩ (.int .i64 y)) := (Keeps.refl (fun i => i = g) wr).setCell (p := ⟨g, k, none⟩) (.inl rfl) _
  have hd : Grew (wr.setCell ⟨g, k, none⟩ (.int .i64 y)) (wr.setCell ⟨g, k, none⟩ (.int .i64 y)).drew := Keeps.drew (Grew.refl _)
  exact ⟨(h.row.int_set (by rw [h.len]; exact hk) y).grew hd, by rw [List.length_set, h.len], h.slow.set_ h1 h2, (h.box.keep hk' (fun e => h.row.ne_box rfl h.box (by decide) e.symm)).grew hd, (Keeps.then_ h.grew hk' (fun i hi e => by have := (h.row.lt g rfl).1; omega)).grew hd⟩
theorem InS.more {w wr w' : World} {g N q : Nat} {nm : ByteArray} {A : Option Addr} {n c : Nat} {x : Fin 10 → Int} {xs : List Int} (h : InS w wr g N q nm A n c x xs) (k : Grew wr w') : InS w w' g N q nm A n c x xs :=
  ⟨h.row.grew k, h.len, h.slow, h.box.grew k, h.grew.trans k⟩
theorem InS.st {w wr w' : World} {g N q : Nat} {nm : ByteArray} {A : Option Addr} {n c : Nat} {x : Fin 10 → Int} {xs : List Int} (h : InS w wr g N q nm A n c x xs) {k : Nat} {y : Int} (hM : Mine w' w.heap.size 3 (.slice (some ⟨g, 0, none⟩) N q) ((xs.map vi).set k (.int .i64 y))) (hK : Keeps (fun i => i = g) wr w') (h1 : -(20 + 8 * (k : Int)) ≤ y) (h2 : y ≤ 20 + 8 * (k : Int)) :
    InS w w' g N q nm A n c x (xs.set k y) :=
  ⟨by rw [List.map_set]; exact hM, by rw [List.length_set, h.len], h.slow.set_ h1 h2, h.box.keep hK (fun e => h.row.ne_box rfl h.box (by decide) e.symm), Keeps.then_ h.grew hK (fun i hi e => by have := (h.row.lt g rfl).1; omega)⟩
set_option maxHeartbeats 6400000 in
set_option maxRecDepth 100000 in
theorem inside_any (nm : ByteArray) (A : Option Addr) (n c : Nat) (x : Fin 10 → Int) (v : Value) (l : List Int) (w : World) (hx : TinyD x) (h : Rd w w.heap.size v (l.map vi)) (hi : ∀ y ∈ l, I64 y) (hl : l.length ≤ 1000000000000000) :
    Calls Tryz.prog 19 #[vdecl nm (.slice A n c) x, v] w (SlowPost (spanD x) w) := by
  have HPk := Lib.hid (fun (i m : Int) (w' : World) (g : Grew w w') => pick_int v l i m w' ((h.grew (Nat.le_refl _) g).more g.size) hi hl)
  have HPL := Lib.hid (fun (i m : Int) => pick_lt l i m)
  have HW := Lib.hid (fun w' (g : Grew w w') => walk_any nm A n c x v l w' hx ((h.grew (Nat.le_refl _) g).more g.size) hi hl)
  have hsp : 1 ≤ spanD x ∧ spanD x ≤ 14 := by
    have := hx.last
    have := hx.span
    unfold spanD; omega
  obtain ⟨hsp1, hsp2⟩ := hsp
  obtain ⟨B, p, q, rfl, -, -⟩ := h.form
  obtain ⟨h3, h3', h4, h4', h5, h5', h6, h6', h7, h7', h8, h8'⟩ := hx
  have hbd : Box (w.alloc (.cells (cells12 nm (.slice A n c) x).toArray 27)) w.heap.size 27 (cells12 nm (.slice A n c) x).toArray := Box.new _ _ _
  have hG0 := (Grew.refl w).alloc (.cells (cells12 nm (.slice A n c) x).toArray 27)
  clear h hi
  rw [vdecl_cells]
  rw [vdecl_cells] at HW
  go_enter Tryz.func19, Tryz.ntmps19
  go_upto_region 1 with fail
  generalize w.alloc (.cells (cells12 nm (.slice A n c) x).toArray 27) = w1 at *
  generalize hNN : spanD x = N at *
  have HNN := Lib.hid hNN
  clear hNN
  go_wp2_with (refine ldN 27 Tryz.underlying27 rfl (.tmp 2) w.heap.size (cells12 nm (.slice A n c) x) 27 info12 rfl rfl rfl hbd ?_)
  refine (HW.out w1 hG0).mono ?_
  rintro e w2 ⟨C, q2, xs, rfl, hM, hxl, hS, k2⟩
  obtain ⟨g, rfl⟩ : ∃ g, C = some ⟨g, 0, none⟩ := by
    rcases hM.form with ⟨hh, h0⟩ | ⟨g, cap, cur, hv, -⟩
    · have : xs.length = 0 := by simpa using congrArg List.length h0
      omega
    · injection hv with hv; exact ⟨g, hv⟩
  have HI := Lib.hid (show InS w w2 g N q2 nm A n c x xs from ⟨hM.base_le hG0.size, hxl, hS, hbd.grew k2, hG0.trans k2⟩)
  clear hM hxl hS k2 hbd hG0 HW
  go_wp2_with fail
  go_loopw [6] (fun i wr => ∃ (s : Nat) (xs : List Int), s + 1 ≤ N ∧ i = .int .i64 ((s : Int) + 1) ∧ InS w wr g N q2 nm A n c x xs) (fun i _ => N - (intOf i).toNat)
  case atStart => exact ⟨0, xs, hsp1, rfl, HI.out⟩
  case round =>
    clear HI
    obtain ⟨s, ys, hs, rfl, hI⟩ := hrel
    by_cases hlt : s + 1 < N
    · have tt : decide ((s : Int) + 1 < (N : Int)) = true := by simp; omega
      obtain ⟨p1, p2⟩ := hI.slow s (by rw [hI.len]; omega)
      obtain ⟨q1, q1'⟩ := hI.row.int_cell (k := s) (by rw [hI.len]; omega)
      obtain ⟨q3, q3'⟩ := hI.row.int_cell (k := s + 1) (by rw [hI.len]; omega)
      obtain ⟨c3, c4, c5, c6, c7, c8⟩ := dnums hI.box
      have HP := Lib.hid (fun w' (g : Grew w w') => HPk.out ((s : Int) + 1) (x 6 - x 5 + 1) w' g (by omega) (by omega) (by omega) (by omega))
      have hk := HPL.out ((s : Int) + 1) (x 6 - x 5 + 1) (by omega)
      generalize pickV l ((s : Int) + 1).toNat (x 6 - x 5 + 1).toNat = k at *
      obtain ⟨y, hy⟩ : ∃ y, ys.getD s 0 = y := ⟨_, rfl⟩
      rw [hy] at p1 p2 q1
      have HY := Lib.hid hy
      clear hy
      generalize ys.getD (s + 1) 0 = y9 at *
      have i1 : (0 : Int) ≤ (s : Int) := by omega
      have i2 : (s : Int) < (N : Int) := by omega
      have i3 : (0 : Int) ≤ (s : Int) + 1 := by omega
      have i4 : (s : Int) + 1 < (N : Int) := by omega
      have i5 : ((s : Int) + 1).toNat = s + 1 := by omega
      have HW1 := Lib.hid (show IntKind.i64.wrap ((s : Int) + 1 - 1) = (s : Int) from by rw [IntWalk.i64_in _ (by omega)]; omega)
      have HW2 := Lib.hid (show IntKind.i64.wrap (s : Int) = (s : Int) from IntWalk.i64_in _ (by omega))
      have s0 : IntKind.i64.wrap (x 6 - x 5) = x 6 - x 5 := IntWalk.i64_in _ (by omega)
      have s1 : IntKind.i64.wrap (x 6 - x 5 + 1) = x 6 - x 5 + 1 := IntWalk.i64_in _ (by omega)
      have s2 : IntKind.i64.wrap (y + x 5) = y + x 5 := IntWalk.i64_in _ (by omega)
      have s3 : IntKind.i64.wrap (y + x 5 + (k : Int)) = y + x 5 + (k : Int) := IntWalk.i64_in _ (by omega)
      have s4 : IntKind.i64.wrap (y + x 6) = y + x 6 := IntWalk.i64_in _ (by omega)
      have HI := Lib.hid hI
      clear hI
      go_wp2_with fail
      have w1 := HW1.out
      have w2 := HW2.out
      go_quiet ((go_at_call 15; exact quietE (HP.out _ (Keeps.drewN HI.out.grew _))))
      clear w1 w2
      have hz : Grew wr (wr.drewN nq) := Keeps.drewN (Grew.refl wr) nq
      have hI5 := HI.out.more hz
      generalize wr.drewN nq = w5 at *
      clear q1 q1' q3 q3' c3 c4 c5 c6 c7 c8 HI hz HP
      obtain ⟨q1, q1'⟩ := hI5.row.int_cell (k := s) (by rw [hI5.len]; omega)
      obtain ⟨q3, q3'⟩ := hI5.row.int_cell (k := s + 1) (by rw [hI5.len]; omega)
      rw [HY.out] at q1
      generalize ys.getD (s + 1) 0 = y8 at *
      obtain ⟨V, hV⟩ : ∃ V, y + x 5 + (k : Int) = V := ⟨_, rfl⟩
      have v1 : -1000 ≤ V := by omega
      have v2 : V ≤ 1000 := by omega
      have HV1 := Lib.hid (show y + x 5 ≤ V from by omega)
      have HV2 := Lib.hid (show V ≤ y + x 6 from by omega)
      rw [hV]
      clear hV hk s0 s1 s3
      have HS2 := Lib.hid s2
      have HS4 := Lib.hid s4
      clear s2 s4
      have hle : (s : Int) ≤ 100 := by omega
      have hbu : -(20 + 8 * ((s + 1 : Nat) : Int)) ≤ y - 8 := by push_cast; omega
      have hbv : y + 8 ≤ 20 + 8 * ((s + 1 : Nat) : Int) := by push_cast; omega
      have HBU := Lib.hid hbu
      have HBV := Lib.hid hbv
      clear hbu hbv
      obtain ⟨c3, c4, c5, c6, c7, c8⟩ := dnums hI5.box
      have o1 : g ≠ w.heap.size := hI5.row.ne_box rfl hI5.box (by decide)
      have o2 := o1.symm
      have HI5 := Lib.hid hI5
      clear hI5
      go_upto_region 6 with fail
      have w1 := HW1.out
      have w2 := HW2.out
      have s2 := HS2.out
      have s4 := HS4.out
      refine wp_region_still_tail 24 (by kernel_rfl) (by kernel_rfl) ?_
      simp only [List.take_succ_cons, List.take_zero, List.drop_succ_cons, List.drop_zero]
      repeat still_step
      refine wpStill_nil ?_
      change wpList _ _ _ _ _ w5.drew
      clear w1 w2 s2 s4
      refine st_row (.tmp 58) (.tmp 57) (s + 1) (if (if y + x 6 < if x 4 < V then x 4 else V then y + x 6 else if x 4 < V then x 4 else V) < y + x 5 then y + x 5 else if y + x 6 < if x 4 < V then x 4 else V then y + x 6 else if x 4 < V then x 4 else V) rfl rfl rfl rfl (Mine.drew HI5.out.row) (by rw [List.length_map, HI5.out.len]; exact hlt) ?_
      intro w6 hM6 hk6
      obtain ⟨Y, hY⟩ : ∃ Y, (if (if y + x 6 < if x 4 < V then x 4 else V then y + x 6 else if x 4 < V then x 4 else V) < y + x 5 then y + x 5 else if y + x 6 < if x 4 < V then x 4 else V then y + x 6 else if x 4 < V then x 4 else V) = Y := ⟨_, rfl⟩
      rw [hY] at hM6 ⊢
      have hY1 : y - 8 ≤ Y ∧ Y ≤ y + 8 := by
        rw [← hY]
        exact ins_one y V (x 4) (x 5) (x 6) HV1.out HV2.out h5 h6' h6
      obtain ⟨hY1, hY2⟩ := hY1
      clear hY
      have hI6 := (HI5.out.more (Keeps.drew (Grew.refl w5))).st hM6 hk6 (Int.le_trans HBU.out hY1) (Int.le_trans hY2 HBV.out)
      clear q1 q1' q3 q3' c3 c4 c5 c6 c7 c8 HI5 hM6 hk6
      obtain ⟨c3, c4, c5, c6, c7, c8⟩ := dnums hI6.box
      obtain ⟨q1, q1'⟩ := hI6.row.int_cell (k := s) (by rw [hI6.len]; omega)
      have he : (ys.set (s + 1) Y).getD s 0 = y := by
        rw [List.getD_eq_getElem?_getD, List.getElem?_set_ne (by omega), ← List.getD_eq_getElem?_getD, HY.out]
      rw [he] at q1
      clear he
      by_cases hv : V < x 3
      · have tv : decide (V < x 3) = true := by simpa using hv
        have HI6 := Lib.hid hI6
        clear hI6
        go_upto_region 8 with fail
        have w1 := HW1.out
        have w2 := HW2.out
        have s2 := HS2.out
        have s4 := HS4.out
        refine wp_region_still_tail 23 (by kernel_rfl) (by kernel_rfl) ?_
        simp only [List.take_succ_cons, List.take_zero, List.drop_succ_cons, List.drop_zero]
        repeat still_step
        refine wpStill_nil ?_
        change wpList _ _ _ _ _ w6.drew
        clear w1 w2 s2 s4
        go_wp2_with (refine st_row (.tmp 85) (.tmp 84) (s + 1) (if y + x 5 < (if y + x 6 < x 3 then y + x 6 else x 3) then (if y + x 6 < x 3 then y + x 6 else x 3) else y + x 5) rfl rfl rfl rfl (Mine.drew HI6.out.row) (by rw [List.length_map, HI6.out.len]; exact hlt) ?_; intro w7 hM7 hk7; have HI7 := Lib.hid ((HI6.out.more (Keeps.drew (Grew.refl w6))).st hM7 hk7 (Int.le_trans HBU.out (ins_two y (x 3) (x 5) (x 6) h5 h6' h6).1) (Int.le_trans (ins_two y (x 3) (x 5) (x 6) h5 h6' h6).2 HBV.out)); clear hM7 hk7 q1 q1' c3 c4 c5 c6 c7 c8 HI6)
        go_roundw
        case rel => exact ⟨s + 1, _, by omega, by go_num, HI7.out⟩
        case measure => simp [intOf]; omega
      · have tv : decide (V < x 3) = false := by simpa using hv
        have HI6 := Lib.hid hI6
        clear hI6
        go_wp2_with fail
        go_roundw
        case rel => exact ⟨s + 1, _, by omega, by go_num, HI6.out⟩
        case measure => simp [intOf]; omega
    · have tt : decide ((s : Int) + 1 < (N : Int)) = false := by simp; omega
      have HI := Lib.hid hI
      clear hI
      go_wp2_with fail
      go_ret
      exact ⟨_, q2, ys, rfl, HI.out.row, HI.out.len, HI.out.slow, HI.out.grew⟩
end Go.Proofs.YtgkmfblmkfclbaaGreatDoor
