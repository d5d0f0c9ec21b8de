/- The reference: whether a claim is encodable; numbers kept in a range; differences of a list. -/
import Derived.Test.YtgajmhpnilkmiaaDoorCodecKeysP13
import Derived.Test.YtgajmhpnilkmiaaDoorCodecKeysP12
import Derived.Test.YtgajmhpnilkmiaaDoorCodecKeysP18
namespace Go.Proofs.YtgajmhpnilkmiaaDoor
open Go.RowKit Pl

theorem cells4_at (c : Clm) (j : Nat) (hj : j < 4) : (cells4 c).toArray[j]? = some (.int .i64 ((l4 c).getD j 0)) := by
  have : j = 0 ∨ j = 1 ∨ j = 2 ∨ j = 3 := by omega
  rcases this with rfl | rfl | rfl | rfl <;> rfl
theorem okC_l4 (c : Clm) : okC c ↔ ∀ x ∈ l4 c, R40 x := by unfold okC l4; simp
theorem l4_get (c : Clm) (j : Nat) (hj : j < 4) : (l4 c)[j]? = some ((l4 c).getD j 0) := by
  have : j = 0 ∨ j = 1 ∨ j = 2 ∨ j = 3 := by omega
  rcases this with rfl | rfl | rfl | rfl <;> rfl

set_option maxHeartbeats 1600000 in
set_option maxRecDepth 100000 in
theorem rencodable_any (c : Clm) (w : World) :
    Calls Tryd.prog 83 #[vc c] w fun e w' => e = .returned (.bool (decide (okC c))) ∧ Grew w w' := by
  have hG0 : Grew w ((w.alloc (.cells #[.int .i64 c.1, .int .i64 c.2.1, .int .i64 c.2.2.1, .int .i64 c.2.2.2] 116)).alloc (.cells #[.int .i64 c.1, .int .i64 c.2.1, .int .i64 c.2.2.1, .int .i64 c.2.2.2] 3)) := ((Grew.refl w).alloc _).alloc _
  have hb0 : Box ((w.alloc (.cells #[.int .i64 c.1, .int .i64 c.2.1, .int .i64 c.2.2.1, .int .i64 c.2.2.2] 116)).alloc (.cells #[.int .i64 c.1, .int .i64 c.2.1, .int .i64 c.2.2.1, .int .i64 c.2.2.2] 3)) (w.heap.size + 1) 3 (cells4 c).toArray := by
    have := Box.new (w.alloc (.cells #[.int .i64 c.1, .int .i64 c.2.1, .int .i64 c.2.2.1, .int .i64 c.2.2.2] 116)) 3 (cells4 c).toArray
    rw [World.size_alloc] at this
    exact this
  have HG0 := Lib.hid hG0
  have HB0 := Lib.hid hb0
  unfold vc cells4
  clear hG0 hb0
  go_enter Tryd.func83, Tryd.ntmps83
  go_wp2_with fail
  go_loopw [4] (fun i wr => ∃ (j : Nat), j ≤ 4 ∧ i = .int .i64 j ∧ Box wr (w.heap.size + 1) 3 (cells4 c).toArray ∧ Grew w wr ∧ ∀ x ∈ (l4 c).take j, R40 x) (fun i _ => 4 - (intOf i).toNat)
  case atStart => exact ⟨0, by omega, rfl, HB0.out, HG0.out, by simp⟩
  case round =>
    clear HB0 HG0
    obtain ⟨j, hj, rfl, hb, hGr, hall⟩ := hrel
    have HALL := Lib.hid hall
    clear hall
    by_cases hlt : j < 4
    · have hcell := (hb.cell j).trans (cells4_at c j hlt)
      have HX := Lib.hid (l4_get c j hlt)
      have HB := Lib.hid hb
      clear hb
      generalize (l4 c).getD j 0 = x at *
      by_cases hr : R40 x
      · have HST := Lib.hid (take_r40 HALL.out HX.out hr)
        have t1 : decide (x < -1099511627776) = false := by unfold R40 at hr; simp; omega
        have t2 : decide (1099511627776 < x) = false := by unfold R40 at hr; simp; omega
        clear hr
        go_wp2_with fail
        go_roundw
        case rel => exact ⟨j + 1, by omega, by go_num, HB.out, hGr, HST.out⟩
        case measure => simp [intOf]; omega
      · have hD : decide (okC c) = false := by
          rw [decide_eq_false_iff_not, okC_l4]
          exact fun k => hr (k x (List.mem_of_getElem? HX.out))
        have HD := Lib.hid hD
        clear hD
        by_cases hl : x < -1099511627776
        · have t1 : decide (x < -1099511627776) = true := by simp [hl]
          clear hr hl
          go_wp2_with fail
          go_ret
          exact ⟨by rw [HD.out]; rfl, hGr⟩
        · have t1 : decide (x < -1099511627776) = false := by simp; omega
          have t2 : decide (1099511627776 < x) = true := by unfold R40 at hr; simp; omega
          clear hr hl
          go_wp2_with fail
          go_ret
          exact ⟨by rw [HD.out]; rfl, hGr⟩
    · have hD : decide (okC c) = true := by
        rw [decide_eq_true_eq, okC_l4]
        have := HALL.out
        rwa [List.take_of_length_le (by simp [l4]; omega)] at this
      have HD := Lib.hid hD
      clear hD
      go_wp2_with fail
      go_ret
      exact ⟨by rw [HD.out]; rfl, hGr⟩

/- a number brought into the range from -m to m -/
def bnd (n : Int) (m : Nat) : Int := (arnd n (2 * m + 1) : Nat) - (m : Int)
theorem bnd_range (n : Int) (m : Nat) : -(m : Int) ≤ bnd n m ∧ bnd n m ≤ m := by
  have := arnd_lt n (2 * m + 1) (by omega)
  unfold bnd; omega
theorem bound_any (n : Int) (m : Nat) (w : World) (hn : I64 n) (hm : m ≤ 2305843009213693952) :
    Calls Tryd.prog 82 #[.int .i64 n, .int .i64 (m : Nat)] w fun e w' => e = .returned (.int .i64 (bnd n m)) ∧ w = w' := by
  have hA := around_any n (2 * m + 1) w hn (by omega) (by omega)
  have e1 : ((2 * m + 1 : Nat) : Int) = 2 * (m : Int) + 1 := by omega
  rw [e1] at hA
  have HA := Lib.hid hA
  have hb := bnd_range n m
  have ha := arnd_lt n (2 * m + 1) (by omega)
  unfold bnd at hb ⊢
  clear hA e1
  go_enter Tryd.func82, Tryd.ntmps82
  go_wp2_with (go_at_call 29; refine HA.out.mono ?_; rintro e w' ⟨rfl, rfl⟩)
  go_ret
  exact ⟨rfl, rfl⟩

end Go.Proofs.YtgajmhpnilkmiaaDoor
