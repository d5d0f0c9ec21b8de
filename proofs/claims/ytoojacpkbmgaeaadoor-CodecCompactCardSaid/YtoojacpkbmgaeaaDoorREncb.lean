/- The reference: whether a claim is encodable; numbers kept in a range; differences of a list. -/
import Derived.Test.YtoojacpkbmgaeaaDoorEncode
import Derived.Test.YtoojacpkbmgaeaaDoorRowC
import Derived.Test.YtoojacpkbmgaeaaDoorDPl
namespace Go.Proofs.YtoojacpkbmgaeaaDoor
open Go.RowKit Pl

theorem cells4_at (c : Clm) (j : Nat) (hj : j < 4) : (cells4 c).toArray[j]? = some (.int .i64 ((l4 c).getD j 0)) := by
  have : j = 0 ∨ j = 1 ∨ j = 2 ∨ j = 3 := by omega
  rcases this with rfl | rfl | rfl | rfl <;> rfl
theorem okC_l4 (c : Clm) : okC c ↔ ∀ x ∈ l4 c, R40 x := by unfold okC l4; simp
theorem l4_get (c : Clm) (j : Nat) (hj : j < 4) : (l4 c)[j]? = some ((l4 c).getD j 0) := by
  have : j = 0 ∨ j = 1 ∨ j = 2 ∨ j = 3 := by omega
  rcases this with rfl | rfl | rfl | rfl <;> rfl

set_option maxHeartbeats 1600000 in
set_option maxRecDepth 100000 in
theorem rencodable_any (c : Clm) (w : World) :
    Calls Tryd.prog 79 #[vc c] w fun e w' => e = .returned (.bool (decide (okC c))) ∧ Grew w w' := by
  have hG0 : Grew w ((w.alloc (.cells #[.int .i64 c.1, .int .i64 c.2.1, .int .i64 c.2.2.1, .int .i64 c.2.2.2] 24)).alloc (.cells #[.int .i64 c.1, .int .i64 c.2.1, .int .i64 c.2.2.1, .int .i64 c.2.2.2] 3)) := ((Grew.refl w).alloc _).alloc _
  have hb0 : Box ((w.alloc (.cells #[.int .i64 c.1, .int .i64 c.2.1, .int .i64 c.2.2.1, .int .i64 c.2.2.2] 24)).alloc (.cells #[.int .i64 c.1, .int .i64 c.2.1, .int .i64 c.2.2.1, .int .i64 c.2.2.2] 3)) (w.heap.size + 1) 3 (cells4 c).toArray := by
    have := Box.new (w.alloc (.cells #[.int .i64 c.1, .int .i64 c.2.1, .int .i64 c.2.2.1, .int .i64 c.2.2.2] 24)) 3 (cells4 c).toArray
    rw [World.size_alloc] at this
    exact this
  have HG0 := Lib.hid hG0
  have HB0 := Lib.hid hb0
  unfold vc cells4
  clear hG0 hb0
  go_enter Tryd.func79, Tryd.ntmps79
  go_wp2_with fail
  go_loopw [4] (fun i wr => ∃ (j : Nat), j ≤ 4 ∧ i = .int .i64 j ∧ Box wr (w.heap.size + 1) 3 (cells4 c).toArray ∧ Grew w wr ∧ ∀ x ∈ (l4 c).take j, R40 x) (fun i _ => 4 - (intOf i).toNat)
  case atStart => exact ⟨0, by omega, rfl, HB0.out, HG0.out, by simp⟩
  case round =>
    clear HB0 HG0
    obtain ⟨j, hj, rfl, hb, hGr, hall⟩ := hrel
    have HALL := Lib.hid hall
    clear hall
    by_cases hlt : j < 4
    · have hcell := (hb.cell j).trans (cells4_at c j hlt)
      have HX := Lib.hid (l4_get c j hlt)
      have HB := Lib.hid hb
      clear hb
      generalize (l4 c).getD j 0 = x at *
      by_cases hr : R40 x
      · have HST := Lib.hid (take_r40 HALL.out HX.out hr)
        have t1 : decide (x < -1099511627776) = false := by unfold R40 at hr; simp; omega
        have t2 : decide (1099511627776 < x) = false := by unfold R40 at hr; simp; omega
        clear hr
        go_wp2_with fail
        go_roundw
        case rel => exact ⟨j + 1, by omega, by go_num, HB.out, hGr, HST.out⟩
        case measure => simp [intOf]; omega
      · have hD : decide (okC c) = false := by
          rw [decide_eq_false_iff_not, okC_l4]
          exact fun k => hr (k x (List.mem_of_getElem? HX.out))
        have HD := Lib.hid hD
        clear hD
        by_cases hl : x < -1099511627776
        · have t1 : decide (x < -1099511627776) = true := by simp [hl]
          clear hr hl
          go_wp2_with fail
          go_ret
          exact ⟨by rw [HD.out]; rfl, hGr⟩
        · have t1 : decide (x < -1099511627776) = false := by simp; omega
          have t2 : decide (1099511627776 < x) = true := by unfold R40 at hr; simp; omega
          clear hr hl
          go_wp2_with fail
          go_ret
          exact ⟨by rw [HD.out]; rfl, hGr⟩
    · have hD : decide (okC c) = true := by
        rw [decide_eq_true_eq, okC_l4]
        have := HALL.out
        rwa [List.take_of_length_le (by simp [l4]; omega)] at this
      have HD := Lib.hid hD
      clear hD
      go_wp2_with fail
      go_ret
      exact ⟨by rw [HD.out]; rfl, hGr⟩

/- a number brought into the range from -m to m -/
def bnd (n : Int) (m : Nat) : Int := (arnd n (2 * m + 1) : Nat) - (m : Int)
theorem bnd_range (n : Int) (m : Nat) : -(m : Int) ≤ bnd n m ∧ bnd n m ≤ m := by
  have := arnd_lt n (2 * m + 1) (by omega)
  unfold bnd; omega
theorem bound_any (n : Int) (m : Nat) (w : World) (hn : I64 n) (hm : m ≤ 2305843009213693952) :
    Calls Tryd.prog 42 #[.int .i64 n, .int .i64 (m : Nat)] w fun e w' => e = .returned (.int .i64 (bnd n m)) ∧ w = w' := by
  have hA := around_any n (2 * m + 1) w hn (by omega) (by omega)
  have e1 : ((2 * m + 1 : Nat) : Int) = 2 * (m : Int) + 1 := by omega
  rw [e1] at hA
  have HA := Lib.hid hA
  have hb := bnd_range n m
  have ha := arnd_lt n (2 * m + 1) (by omega)
  unfold bnd at hb ⊢
  clear hA e1
  go_enter Tryd.func42, Tryd.ntmps42
  go_wp2_with (go_at_call 33; refine HA.out.mono ?_; rintro e w' ⟨rfl, rfl⟩)
  go_ret
  exact ⟨rfl, rfl⟩

set_option maxHeartbeats 3200000 in
set_option maxRecDepth 100000 in
theorem differences_any (v : Value) (l : List Int) (w : World) (h : Rd w w.heap.size v (l.map vi)) (hi : ∀ x ∈ l, I64 x) (hl : l.length ≤ 1000000000) :
    Calls Tryd.prog 80 #[v] w fun e w' => ∃ v', e = .returned v' ∧ Mine w' w.heap.size 3 v' ((diffs 0 l).map vi) ∧ Grew w w' := by
  obtain ⟨A, n, c, rfl, hn, hc⟩ := h.form
  rw [List.length_map] at hn
  have hnl : n ≤ 1000000000 := by omega
  have HN := Lib.hid hn
  have HI := Lib.hid hi
  have H := Lib.hid h
  clear hn hi h
  go_enter Tryd.func80, Tryd.ntmps80
  go_wp2_with fail
  go_loopw [3, 4] (fun a i wr => ∃ (j m : Nat) (A : Option Addr) (c : Nat), j ≤ n ∧ i = .int .i64 j ∧ a = .slice A m c ∧ Mine wr w.heap.size 3 (.slice A m c) (((diffs 0 l).take j).map vi) ∧ Grew w wr) (fun _ i _ => n - (intOf i).toNat)
  case atStart => exact ⟨0, 0, none, 0, by omega, rfl, rfl, by simpa using Mine.nil w w.heap.size 3, Grew.refl _⟩
  case round =>
    obtain ⟨j, m, B, d, hj, rfl, rfl, hM, hG⟩ := hrel
    have hsz := hG.size
    by_cases hlt : j < n
    · have hjl : j < l.length := by rw [← HN.out]; exact hlt
      have hR := H.out.grew (Nat.le_refl _) hG
      have hst := diffs_take 0 l j hjl
      have HST := Lib.hid hst
      have hbl : (((diffs 0 l).take j).map vi).length < 1099511627776 := by
        rw [List.length_map, List.length_take, diffs_length]; omega
      obtain ⟨ad, rfl, hadb, hc0⟩ := hR.int_at hjl
      have hx := getD_I64 HI.out j
      have fin : ∀ (y : Int) (r q cap : Nat) (w1 : World), y = wrap64 (l.getD j 0 - (0 :: l).getD j 0) → Mine w1 w.heap.size 3 (.slice (some ⟨r, 0, none⟩) q cap) (((diffs 0 l).take j).map vi ++ [.int .i64 y]) → Mine w1 w.heap.size 3 (.slice (some ⟨r, 0, none⟩) q cap) (((diffs 0 l).take (j + 1)).map vi) := by
        intro y r q cap w1 hy hq
        rw [HST.out, List.map_append, ← hy]
        exact hq
      have FIN := Lib.hid fin
      clear hst fin
      rcases Nat.lt_or_ge j 1 with h1 | h1
      · obtain rfl : j = 0 := by omega
        have hy : l.getD 0 0 = wrap64 (l.getD 0 0 - (0 :: l).getD 0 0) := by
          show l.getD 0 0 = wrap64 (l.getD 0 0 - 0)
          rw [Int.sub_zero, wrap_of hx]
        have HY := Lib.hid hy
        clear hy hx hR
        generalize l.getD 0 0 = x at *
        simp only [Addr.add, if_true] at hc0
        go_wp2_with (at_builtin; refine app_one slInt rfl (.tmp 25) (.tmp 27) rfl rfl (hM.alloc _) wr.heap.size 1 (.int .i64 x) rfl (Nat.le_refl _) (by simp) (by simp) rfl hbl (by simp; omega) ?_)
        intro r cap w1 hM1 hk1 hr hbr hlr
        have hG1 : Grew w w1 := (hG.alloc _).app (hM.alloc _) hk1
        have HM2 := Lib.hid (FIN.out _ r _ cap w1 HY.out (by simpa using hM1))
        clear hM1 hk1 hM hbl
        go_wp2_with fail
        go_roundw
        case rel => exact ⟨1, _, _, _, by omega, by go_num, rfl, HM2.out, hG1⟩
        case measure => simp [intOf]; omega
      · obtain ⟨ad', hA, _, hc1⟩ := hR.int_at (j := j - 1) (by omega)
        injection hA with hA
        subst hA
        have hy : wrap64 (l.getD j 0 - l.getD (j - 1) 0) = wrap64 (l.getD j 0 - (0 :: l).getD j 0) := by
          obtain ⟨q, rfl⟩ : ∃ q, j = q + 1 := ⟨j - 1, by omega⟩
          rw [List.getD_cons_succ]; rfl
        have HY := Lib.hid hy
        clear hy hx hR
        generalize l.getD j 0 = y at *
        generalize l.getD (j - 1) 0 = x at *
        go_wp2_with (at_builtin; refine app_one slInt rfl (.tmp 25) (.tmp 27) rfl rfl (hM.alloc _) wr.heap.size 1 (.int .i64 (wrap64 (y - x))) rfl (Nat.le_refl _) (by simp) (by simp) rfl hbl (by simp; omega) ?_)
        intro r cap w1 hM1 hk1 hr hbr hlr
        have hG1 : Grew w w1 := (hG.alloc _).app (hM.alloc _) hk1
        have HM2 := Lib.hid (FIN.out _ r _ cap w1 HY.out (by simpa using hM1))
        clear hM1 hk1 hM hbl
        go_wp2_with fail
        go_roundw
        case rel => exact ⟨j + 1, _, _, _, by omega, by go_num, rfl, HM2.out, hG1⟩
        case measure => simp [intOf]; omega
    · obtain rfl : j = n := by omega
      have hall : (diffs 0 l).take j = diffs 0 l := List.take_of_length_le (by rw [diffs_length, ← HN.out]; omega)
      rw [hall] at hM
      clear hall
      go_wp2_with fail
      go_ret
      exact ⟨_, rfl, hM, hG⟩
end Go.Proofs.YtoojacpkbmgaeaaDoor
