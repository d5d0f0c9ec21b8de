/- The reference: Code. -/
import Derived.Test.YtoojacpkbmgaeaaDoorPack
import Derived.Deep.RegionHeld3
namespace Go.Proofs.YtoojacpkbmgaeaaDoor
open Go.RowKit Pl

set_option maxHeartbeats 3200000 in
set_option maxRecDepth 100000 in
theorem rcode_any (n : Int) (w : World) (hn : I64 n) :
    Calls Tryd.prog 69 #[.int .i64 n] w fun e w' => ∃ v', e = .returned v' ∧ Mine w' w.heap.size 4 v' ((code n).map vbo) ∧ Grew w w' := by
  have hz := zig_lt hn
  have hil := idx_le (zig n)
  have HZg := Lib.hid (zigzag_any n w hn)
  unfold code
  generalize zig n = z at *
  have hj5 : ∀ j, j ≤ 5 → (z < 2 ^ width j ↔ idx z ≤ j) := by
    intro j hj
    have : j = 0 ∨ j = 1 ∨ j = 2 ∨ j = 3 ∨ j = 4 ∨ j = 5 := by omega
    rcases this with rfl | rfl | rfl | rfl | rfl | rfl <;> simp [width] <;> unfold idx <;> (repeat' split) <;> omega
  have HJ := Lib.hid hj5
  have HZ := Lib.hid hz
  clear hj5 hz
  have hbox := Box.new w 3 #[.int .i64 0, .int .i64 4, .int .i64 8, .int .i64 16, .int .i64 32, .int .i64 64]
  have hwid : ∀ j, j < 6 → (#[Value.int .i64 0, .int .i64 4, .int .i64 8, .int .i64 16, .int .i64 32, .int .i64 64] : Array Value)[j]? = some (.int .i64 (width j : Nat)) := by
    intro j hj
    have : j = 0 ∨ j = 1 ∨ j = 2 ∨ j = 3 ∨ j = 4 ∨ j = 5 := by omega
    rcases this with rfl | rfl | rfl | rfl | rfl | rfl <;> rfl
  have HWD := Lib.hid hwid
  clear hwid
  go_enter Tryd.func69, Tryd.ntmps69
  go_wp2_with (go_at_call 104; refine HZg.out.mono ?_; rintro e w' ⟨rfl, rfl⟩)
  have hG1 : Grew w (w.alloc (.cells #[.int .i64 0, .int .i64 4, .int .i64 8, .int .i64 16, .int .i64 32, .int .i64 64] 3)) := (Grew.refl w).alloc _
  have hs1 : w.heap.size < (w.alloc (.cells #[.int .i64 0, .int .i64 4, .int .i64 8, .int .i64 16, .int .i64 32, .int .i64 64] 3)).heap.size := by simp
  generalize w.alloc (.cells #[.int .i64 0, .int .i64 4, .int .i64 8, .int .i64 16, .int .i64 32, .int .i64 64] 3) = w1 at *
  go_loop [5] (fun i => ∃ j : Nat, j ≤ idx z ∧ j ≤ 5 ∧ i = .int .i64 j) (fun i => 5 - (intOf i).toNat)
  case atStart => exact ⟨0, by omega, by omega, rfl⟩
  case round =>
    obtain ⟨j, hj, hj5, rfl⟩ := hrel
    have hc : w1.cell? ⟨w.heap.size, j, none⟩ = some (.int .i64 (width j : Nat)) := (hbox.cell j).trans (HWD.out j (by omega))
    have hw64 := width_le j
    by_cases h5 : j < 5
    · have hw32 : width j ≤ 32 := by
        have : j = 0 ∨ j = 1 ∨ j = 2 ∨ j = 3 ∨ j = 4 := by omega
        rcases this with rfl | rfl | rfl | rfl | rfl <;> simp [width]
      have hwr : IntKind.u64.wrap (2 ^ width j : Int) = ((2 ^ width j : Nat) : Int) := by
        have : j = 0 ∨ j = 1 ∨ j = 2 ∨ j = 3 ∨ j = 4 := by omega
        rcases this with rfl | rfl | rfl | rfl | rfl <;> rfl
      by_cases hlt : j < idx z
      · have ht : decide ((z : Int) < IntKind.u64.wrap (2 ^ width j : Int)) = false := by
          rw [hwr, decide_eq_false_iff_not]
          have h1 : ¬ z < 2 ^ width j := by rw [HJ.out j (by omega)]; omega
          generalize 2 ^ width j = q at *
          omega
        clear hwr
        go_wp2_with fail
        go_round
        case rel => exact ⟨j + 1, by omega, by omega, by go_num⟩
        case measure => simp [intOf]; omega
      · obtain rfl : j = idx z := by omega
        have ht : decide ((z : Int) < IntKind.u64.wrap (2 ^ width (idx z) : Int)) = true := by
          rw [hwr, decide_eq_true_eq]
          have h1 : z < 2 ^ width (idx z) := by rw [HJ.out _ (by omega)]; omega
          generalize 2 ^ width (idx z) = q at *
          omega
        clear hwr
        go_wp2_with fail
        have hi0 : (0 : Int) ≤ (idx z : Int) := by omega
        have hi6 : (idx z : Int) < (6 : Int) := by omega
        go_region_held3 (fun w' => w'.cell? ⟨w.heap.size, idx z, none⟩ = some (.int .i64 (width (idx z) : Nat)))
          (first | assumption | go_keep | exact cW2 | exact cW3 | exact cW4)
          (first
            | (go_at_call 105; refine (runary_any _ _ (by omega)).mono ?_; rintro e w2 ⟨v2, rfl, k1, k2⟩; have cW2 := ((Box.grew (w := w1.drew) hbox k2).cell (idx z)).trans (HWD.out (idx z) (by omega)))
            | (go_at_call 106; refine (rbits_any _ _ _ HZ.out hw64).mono ?_; rintro e w3 ⟨v3, rfl, m1, m2⟩; have cW3 := (((Box.grew (w := w1.drew) hbox k2).grew m2).cell (idx z)).trans (HWD.out (idx z) (by omega)))
            | (refine step_app slBool rfl _ _ rfl rfl (k1.grew m2) rfl m1.rd (one_vbo _) (by simp [un, bin_length]; omega) (Nat.le_trans k2.size m2.size) ?_; intro A m cap w4 hm hM4 hk4 hr4; have cW4 := ((((Box.grew (w := w1.drew) hbox k2).grew m2).keep hk4 (fun e => by have h7 := (k1.lt _ e).1; have h8 : w1.heap.size ≤ w.heap.size := h7; omega)).cell (idx z)).trans (HWD.out (idx z) (by omega))))
        go_wp2_with fail
        go_ret
        refine ⟨_, rfl, by rw [List.map_append]; exact hM4.base_le (Nat.le_of_lt hs1), ?_⟩
        exact Grew.app ((hG1.drew.trans k2).trans m2) ((k1.grew m2).base_le (Nat.le_of_lt hs1)) hk4
    · obtain rfl : j = 5 := by omega
      have hi5 : idx z = 5 := by omega
      have HI5 := Lib.hid hi5
      clear hi5
      go_wp2_with (first
        | (go_at_call 105; refine (runary_any 5 _ (by omega)).mono ?_; rintro e w2 ⟨v2, rfl, k1, k2⟩)
        | (go_at_call 106; refine (rbits_any _ 64 _ HZ.out (by omega)).mono ?_; rintro e w3 ⟨v3, rfl, m1, m2⟩)
        | (at_builtin; refine app_any slBool rfl (.tmp 30) (.tmp 32) rfl rfl (k1.grew m2) rfl m1.rd (one_vbo _) (by simp [un, bin_length]) (Nat.le_trans k2.size m2.size) ?_; intro A m cap w4 hm hM4 hk4 hr4))
      go_ret
      refine ⟨_, rfl, by rw [List.map_append, HI5.out]; exact hM4.base_le (Nat.le_of_lt hs1), ?_⟩
      exact Grew.app ((hG1.trans k2).trans m2) ((k1.grew m2).base_le (Nat.le_of_lt hs1)) hk4
end Go.Proofs.YtoojacpkbmgaeaaDoor
