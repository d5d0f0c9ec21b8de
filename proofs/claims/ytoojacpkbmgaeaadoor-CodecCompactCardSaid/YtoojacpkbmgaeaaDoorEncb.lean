/- encodable, of the program and of the reference: whether the numbers of a claim are in range. -/
import Derived.Test.YtoojacpkbmgaeaaDoorRow4
namespace Go.Proofs.YtoojacpkbmgaeaaDoor
open Go.RowKit Pl

theorem okC_iff (f t l h : Int) : okC (f, t, l, h) ↔ ∀ x ∈ [f, t, l, h], R40 x := by simp [okC]
theorem R40_not {x : Int} (h : ¬ R40 x) : x < -1099511627776 ∨ 1099511627776 < x := by unfold R40 at h; omega
theorem take_r40 {l : List Int} {j : Nat} {x : Int} (h : ∀ y ∈ l.take j, R40 y) (e : l[j]? = some x) (hx : R40 x) : ∀ y ∈ l.take (j + 1), R40 y := by
  rw [List.take_add_one, e]
  intro y hy
  rcases List.mem_append.1 hy with h1 | h1
  · exact h y h1
  · obtain rfl : y = x := by simpa using h1
    exact hx

theorem idx4_0 (a b c d : Value) (w : World) : Sem.run Tryd.prog (Instr.index 123 (.agg #[a, b, c, d]) (.int .i64 0)) w = .ok a w := by kernel_rfl
theorem idx4_1 (a b c d : Value) (w : World) : Sem.run Tryd.prog (Instr.index 123 (.agg #[a, b, c, d]) (.int .i64 1)) w = .ok b w := by kernel_rfl
theorem idx4_2 (a b c d : Value) (w : World) : Sem.run Tryd.prog (Instr.index 123 (.agg #[a, b, c, d]) (.int .i64 2)) w = .ok c w := by kernel_rfl
theorem idx4_3 (a b c d : Value) (w : World) : Sem.run Tryd.prog (Instr.index 123 (.agg #[a, b, c, d]) (.int .i64 3)) w = .ok d w := by kernel_rfl

set_option maxHeartbeats 1600000 in
set_option maxRecDepth 100000 in
theorem encodable_any (c : Clm) (w : World) :
    Calls Tryd.prog 78 #[vc c] w fun e w' => e = .returned (.bool (decide (okC c))) ∧ Grew w w' := by
  obtain ⟨f, t, l, h⟩ := c
  unfold vc cells4
  have hG := (Grew.refl w).alloc (.cells #[.int .i64 f, .int .i64 t, .int .i64 l, .int .i64 h] 24)
  have i0 := idx4_0
  have i1 := idx4_1
  have i2 := idx4_2
  have i3 := idx4_3
  go_enter Tryd.func78, Tryd.ntmps78
  go_wp2_with fail
  go_loopw [14] (fun i wr => ∃ (j : Nat), j ≤ 4 ∧ i = .int .i64 j ∧ Grew w wr ∧ ∀ x ∈ [f, t, l, h].take j, R40 x) (fun i _ => 4 - (intOf i).toNat)
  case atStart => exact ⟨0, by omega, rfl, hG, by simp⟩
  case round =>
    obtain ⟨j, hj, rfl, hGr, hall⟩ := hrel
    have HALL := Lib.hid hall
    clear hall hG
    by_cases hlt : j < 4
    · obtain ⟨x, hx⟩ : ∃ x, [f, t, l, h][j]? = some x := ⟨_, List.getElem?_eq_getElem (by simpa using hlt)⟩
      have HX := Lib.hid hx
      by_cases hr : R40 x
      · have hst := take_r40 HALL.out hx hr
        have HST := Lib.hid hst
        unfold R40 at hr
        clear hst
        have h4 : j = 0 ∨ j = 1 ∨ j = 2 ∨ j = 3 := by omega
        rcases h4 with rfl | rfl | rfl | rfl <;> (simp at hx; subst hx; clear hlt hj)
        · go_wp2_with fail
          go_roundw
          case rel => exact ⟨1, by omega, rfl, hGr, HST.out⟩
          case measure => simp [intOf]
        · go_wp2_with fail
          go_roundw
          case rel => exact ⟨2, by omega, rfl, hGr, HST.out⟩
          case measure => simp [intOf]
        · go_wp2_with fail
          go_roundw
          case rel => exact ⟨3, by omega, rfl, hGr, HST.out⟩
          case measure => simp [intOf]
        · go_wp2_with fail
          go_roundw
          case rel => exact ⟨4, by omega, rfl, hGr, HST.out⟩
          case measure => simp [intOf]
      · have hD : decide (okC (f, t, l, h)) = false := by
          rw [decide_eq_false_iff_not, okC_iff]
          exact fun k => hr (k x (List.mem_of_getElem? hx))
        have HD := Lib.hid hD
        have hn := R40_not hr
        clear hD hr
        have h4 : j = 0 ∨ j = 1 ∨ j = 2 ∨ j = 3 := by omega
        rcases h4 with rfl | rfl | rfl | rfl <;> (simp at hx; subst hx; rcases hn with hn | hn)
        all_goals clear hlt hj
        all_goals try (have hn0 : ¬ ((_ : Int) < -1099511627776) := by omega)
        all_goals go_wp2_with fail
        all_goals go_ret
        all_goals exact ⟨by rw [HD.out]; rfl, hGr⟩
    · have hD : decide (okC (f, t, l, h)) = true := by
        rw [decide_eq_true_eq, okC_iff]
        have := HALL.out
        rw [List.take_of_length_le (by simp; omega)] at this
        exact this
      have HD := Lib.hid hD
      clear hD
      go_wp2_with fail
      go_ret
      exact ⟨by rw [HD.out]; rfl, hGr⟩
end Go.Proofs.YtoojacpkbmgaeaaDoor
