/- intervalmonref01: the comparisons of slices. -/
import Derived.Test.YtoojacpkbmgaeaaDoorCInts
import Derived.Deep.QuietTactic
import Derived.BigQuiet
namespace Go.Proofs.YtoojacpkbmgaeaaDoor
open Go.RowKit Pl

theorem take_eq_step {α : Type} {xs ys : List α} {j : Nat} (h : xs.take j = ys.take j) (hx : xs[j]? = ys[j]?) : xs.take (j + 1) = ys.take (j + 1) := by
  rw [List.take_add_one, List.take_add_one, h, hx]
theorem getElem?_take_ne {α : Type} {xs ys : List α} {j : Nat} (h : xs[j]? ≠ ys[j]?) : xs ≠ ys := fun e => h (by rw [e])
theorem eq_of_take {α : Type} {xs ys : List α} {n : Nat} (hx : xs.length ≤ n) (hy : ys.length ≤ n) (h : xs.take n = ys.take n) : xs = ys := by
  rwa [List.take_of_length_le hx, List.take_of_length_le hy] at h

set_option maxHeartbeats 1600000 in
theorem sameBytes_any (v u : Value) (xs ys : List Nat) (w : World) (h : Rd w w.heap.size v (xs.map vb)) (k : Rd w w.heap.size u (ys.map vb)) (hl : xs.length ≤ 1099511627776) (hl' : ys.length ≤ 1099511627776) :
    Calls Tryd.prog 20 #[v, u] w fun e w' => e = .returned (.bool (decide (xs = ys))) ∧ ∃ n, w' = w.drewN n := by
  obtain ⟨A, n, c, rfl, hn, hc⟩ := h.form
  obtain ⟨B, n', d, rfl, hn', hd⟩ := k.form
  rw [List.length_map] at hn hn'
  have hnl : n ≤ 1099511627776 := by omega
  have hnl' : n' ≤ 1099511627776 := by omega
  have HN := Lib.hid hn
  have HN' := Lib.hid hn'
  by_cases hne : n ≠ n'
  · have t0 : ((n : Int) != (n' : Int)) = true := by rw [bne_iff_ne]; omega
    have hD : decide (xs = ys) = false := by
      rw [decide_eq_false_iff_not]
      rintro rfl
      omega
    have HD := Lib.hid hD
    clear hn hn' hne hD
    go_enter Tryd.func20, Tryd.ntmps20
    go_wp2_with fail
    go_ret
    exact ⟨by rw [HD.out]; rfl, 0, rfl⟩
  obtain rfl : n = n' := by omega
  clear hn hn' hne
  have t0 : ((n : Int) != (n : Int)) = false := by simp
  go_enter Tryd.func20, Tryd.ntmps20
  go_wp2_with fail
  go_loopw [5] (fun i wr => ∃ (j m : Nat), j ≤ n ∧ i = .int .i64 j ∧ wr = w.drewN m ∧ xs.take j = ys.take j) (fun i _ => n - (intOf i).toNat)
  case atStart => exact ⟨0, 0, by omega, rfl, rfl, by simp⟩
  case round =>
    obtain ⟨j, m, hj, rfl, rfl, htake⟩ := hrel
    have HTK := Lib.hid htake
    clear htake
    by_cases hlt : j < n
    · have hjx : j < xs.length := by rw [← HN.out]; exact hlt
      have hjy : j < ys.length := by rw [← HN'.out]; exact hlt
      obtain ⟨ad, u1, rfl, hadb, hu, hcell⟩ := h.at_ (j := j) (by rw [List.length_map]; exact hjx)
      obtain ⟨ad2, u2, rfl, hadb2, hu2, hcell2⟩ := k.at_ (j := j) (by rw [List.length_map]; exact hjy)
      obtain rfl : vb xs[j] = u1 := by
        rw [List.getElem?_map, List.getElem?_eq_getElem hjx] at hu
        injection hu
      obtain rfl : vb ys[j] = u2 := by
        rw [List.getElem?_map, List.getElem?_eq_getElem hjy] at hu2
        injection hu2
      unfold vb at hcell hcell2
      clear hu hu2
      by_cases hxy : xs[j] = ys[j]
      · have hstep : xs.take (j + 1) = ys.take (j + 1) := take_eq_step HTK.out (by rw [List.getElem?_eq_getElem hjx, List.getElem?_eq_getElem hjy, hxy])
        have HS := Lib.hid hstep
        rw [← hxy] at hcell2
        clear hstep hxy
        generalize xs[j] = x at *
        clear hjx hjy
        have tx : ((x : Int) != (x : Int)) = false := by simp
        go_wp2_with fail
        go_quiet (fail)
        go_wp2_with fail
        go_roundw
        case rel => exact ⟨j + 1, _, by omega, by go_num, rfl, HS.out⟩
        case measure => simp [intOf]; omega
      · have hD : decide (xs = ys) = false := by
          rw [decide_eq_false_iff_not]
          rintro rfl
          exact hxy rfl
        have HD := Lib.hid hD
        clear hD
        generalize xs[j] = x at *
        generalize ys[j] = y at *
        have tx : ((x : Int) != (y : Int)) = true := by rw [bne_iff_ne]; omega
        clear hxy hjx hjy
        go_wp2_with fail
        go_quiet (fail)
        go_wp2_with fail
        go_ret
        exact ⟨by rw [HD.out]; rfl, _, World.drewN_drewN _ _ _⟩
    · have hD : decide (xs = ys) = true := by
        rw [decide_eq_true_eq]
        refine eq_of_take (n := j) ?_ ?_ HTK.out
        · rw [← HN.out]; omega
        · rw [← HN'.out]; omega
      have HD := Lib.hid hD
      clear hD
      go_wp2_with fail
      go_ret
      exact ⟨by rw [HD.out]; rfl, _, rfl⟩

set_option maxHeartbeats 1600000 in
theorem sameInts_any (v u : Value) (xs ys : List Int) (w : World) (h : Rd w w.heap.size v (xs.map vi)) (k : Rd w w.heap.size u (ys.map vi)) (hl : xs.length ≤ 1099511627776) (hl' : ys.length ≤ 1099511627776) :
    Calls Tryd.prog 29 #[v, u] w fun e w' => e = .returned (.bool (decide (xs = ys))) ∧ ∃ n, w' = w.drewN n := by
  obtain ⟨A, n, c, rfl, hn, hc⟩ := h.form
  obtain ⟨B, n', d, rfl, hn', hd⟩ := k.form
  rw [List.length_map] at hn hn'
  have hnl : n ≤ 1099511627776 := by omega
  have hnl' : n' ≤ 1099511627776 := by omega
  have HN := Lib.hid hn
  have HN' := Lib.hid hn'
  by_cases hne : n ≠ n'
  · have t0 : ((n : Int) != (n' : Int)) = true := by rw [bne_iff_ne]; omega
    have hD : decide (xs = ys) = false := by
      rw [decide_eq_false_iff_not]
      rintro rfl
      omega
    have HD := Lib.hid hD
    clear hn hn' hne hD
    go_enter Tryd.func29, Tryd.ntmps29
    go_wp2_with fail
    go_ret
    exact ⟨by rw [HD.out]; rfl, 0, rfl⟩
  obtain rfl : n = n' := by omega
  clear hn hn' hne
  have t0 : ((n : Int) != (n : Int)) = false := by simp
  go_enter Tryd.func29, Tryd.ntmps29
  go_wp2_with fail
  go_loopw [5] (fun i wr => ∃ (j m : Nat), j ≤ n ∧ i = .int .i64 j ∧ wr = w.drewN m ∧ xs.take j = ys.take j) (fun i _ => n - (intOf i).toNat)
  case atStart => exact ⟨0, 0, by omega, rfl, rfl, by simp⟩
  case round =>
    obtain ⟨j, m, hj, rfl, rfl, htake⟩ := hrel
    have HTK := Lib.hid htake
    clear htake
    by_cases hlt : j < n
    · have hjx : j < xs.length := by rw [← HN.out]; exact hlt
      have hjy : j < ys.length := by rw [← HN'.out]; exact hlt
      obtain ⟨ad, u1, rfl, hadb, hu, hcell⟩ := h.at_ (j := j) (by rw [List.length_map]; exact hjx)
      obtain ⟨ad2, u2, rfl, hadb2, hu2, hcell2⟩ := k.at_ (j := j) (by rw [List.length_map]; exact hjy)
      obtain rfl : vi xs[j] = u1 := by
        rw [List.getElem?_map, List.getElem?_eq_getElem hjx] at hu
        injection hu
      obtain rfl : vi ys[j] = u2 := by
        rw [List.getElem?_map, List.getElem?_eq_getElem hjy] at hu2
        injection hu2
      unfold vi at hcell hcell2
      clear hu hu2
      by_cases hxy : xs[j] = ys[j]
      · have hstep : xs.take (j + 1) = ys.take (j + 1) := take_eq_step HTK.out (by rw [List.getElem?_eq_getElem hjx, List.getElem?_eq_getElem hjy, hxy])
        have HS := Lib.hid hstep
        rw [← hxy] at hcell2
        clear hstep hxy
        generalize xs[j] = x at *
        clear hjx hjy
        have tx : (x != x) = false := by simp
        go_wp2_with fail
        go_quiet (fail)
        go_wp2_with fail
        go_roundw
        case rel => exact ⟨j + 1, _, by omega, by go_num, rfl, HS.out⟩
        case measure => simp [intOf]; omega
      · have hD : decide (xs = ys) = false := by
          rw [decide_eq_false_iff_not]
          rintro rfl
          exact hxy rfl
        have HD := Lib.hid hD
        clear hD
        generalize xs[j] = x at *
        generalize ys[j] = y at *
        have tx : (x != y) = true := by rw [bne_iff_ne]; exact hxy
        clear hxy hjx hjy
        go_wp2_with fail
        go_quiet (fail)
        go_wp2_with fail
        go_ret
        exact ⟨by rw [HD.out]; rfl, _, World.drewN_drewN _ _ _⟩
    · have hD : decide (xs = ys) = true := by
        rw [decide_eq_true_eq]
        refine eq_of_take (n := j) ?_ ?_ HTK.out
        · rw [← HN.out]; omega
        · rw [← HN'.out]; omega
      have HD := Lib.hid hD
      clear hD
      go_wp2_with fail
      go_ret
      exact ⟨by rw [HD.out]; rfl, _, rfl⟩
end Go.Proofs.YtoojacpkbmgaeaaDoor
