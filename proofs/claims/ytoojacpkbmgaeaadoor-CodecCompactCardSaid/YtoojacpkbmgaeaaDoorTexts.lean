/- SameTexts; turned; the examples of the chapter. -/
import Derived.Test.YtoojacpkbmgaeaaDoorDict
namespace Go.Proofs.YtoojacpkbmgaeaaDoor
open Go.RowKit Pl

set_option maxHeartbeats 1600000 in
theorem sameTexts_any (v u : Value) (xs ys : List Str) (w : World) (h : Rd w w.heap.size v (xs.map vs)) (k : Rd w w.heap.size u (ys.map vs)) (hl : xs.length ≤ 1099511627776) (hl' : ys.length ≤ 1099511627776) :
    Calls Tryd.prog 38 #[v, u] w fun e w' => e = .returned (.bool (decide (xs = ys))) ∧ ∃ n, w' = w.drewN n := by
  obtain ⟨A, n, c, rfl, hn, hc⟩ := h.form
  obtain ⟨B, n', d, rfl, hn', hd⟩ := k.form
  rw [List.length_map] at hn hn'
  have hnl : n ≤ 1099511627776 := by omega
  have hnl' : n' ≤ 1099511627776 := by omega
  have HN := Lib.hid hn
  have HN' := Lib.hid hn'
  by_cases hne : n ≠ n'
  · have t0 : ((n : Int) != (n' : Int)) = true := by rw [bne_iff_ne]; omega
    have hD : decide (xs = ys) = false := by
      rw [decide_eq_false_iff_not]
      rintro rfl
      omega
    have HD := Lib.hid hD
    clear hn hn' hne hD
    go_enter Tryd.func38, Tryd.ntmps38
    go_wp2_with fail
    go_ret
    exact ⟨by rw [HD.out]; rfl, 0, rfl⟩
  obtain rfl : n = n' := by omega
  clear hn hn' hne
  have t0 : ((n : Int) != (n : Int)) = false := by simp
  go_enter Tryd.func38, Tryd.ntmps38
  go_wp2_with fail
  go_loopw [5] (fun i wr => ∃ (j m : Nat), j ≤ n ∧ i = .int .i64 j ∧ wr = w.drewN m ∧ xs.take j = ys.take j) (fun i _ => n - (intOf i).toNat)
  case atStart => exact ⟨0, 0, by omega, rfl, rfl, by simp⟩
  case round =>
    obtain ⟨j, m, hj, rfl, rfl, htake⟩ := hrel
    have HTK := Lib.hid htake
    clear htake
    by_cases hlt : j < n
    · have hjx : j < xs.length := by rw [← HN.out]; exact hlt
      have hjy : j < ys.length := by rw [← HN'.out]; exact hlt
      obtain ⟨ad, u1, rfl, hadb, hu, hcell⟩ := h.at_ (j := j) (by rw [List.length_map]; exact hjx)
      obtain ⟨ad2, u2, rfl, hadb2, hu2, hcell2⟩ := k.at_ (j := j) (by rw [List.length_map]; exact hjy)
      obtain rfl : vs xs[j] = u1 := by
        rw [List.getElem?_map, List.getElem?_eq_getElem hjx] at hu
        injection hu
      obtain rfl : vs ys[j] = u2 := by
        rw [List.getElem?_map, List.getElem?_eq_getElem hjy] at hu2
        injection hu2
      unfold vs at hcell hcell2
      clear hu hu2
      by_cases hxy : xs[j] = ys[j]
      · have hstep : xs.take (j + 1) = ys.take (j + 1) := take_eq_step HTK.out (by rw [List.getElem?_eq_getElem hjx, List.getElem?_eq_getElem hjy, hxy])
        have HS := Lib.hid hstep
        rw [← hxy] at hcell2
        clear hstep hxy
        generalize xs[j] = x at *
        clear hjx hjy
        go_wp2_with fail
        go_quiet (fail)
        go_wp2_with fail
        go_roundw
        case rel => exact ⟨j + 1, _, by omega, by go_num, rfl, HS.out⟩
        case measure => simp [intOf]; omega
      · have hD : decide (xs = ys) = false := by
          rw [decide_eq_false_iff_not]
          rintro rfl
          exact hxy rfl
        have HD := Lib.hid hD
        clear hD
        generalize xs[j] = x at *
        generalize ys[j] = y at *
        have tx : (x == y) = false := by rw [beq_eq_false_iff_ne]; exact hxy
        clear hxy hjx hjy
        go_wp2_with fail
        go_quiet (fail)
        go_wp2_with fail
        go_ret
        exact ⟨by rw [HD.out]; rfl, _, World.drewN_drewN _ _ _⟩
    · have hD : decide (xs = ys) = true := by
        rw [decide_eq_true_eq]
        refine eq_of_take (n := j) ?_ ?_ HTK.out
        · rw [← HN.out]; omega
        · rw [← HN'.out]; omega
      have HD := Lib.hid hD
      clear hD
      go_wp2_with fail
      go_ret
      exact ⟨by rw [HD.out]; rfl, _, rfl⟩

/- bytes with one of them replaced -/
def turn (bs : List Nat) (a : Int) (c : Nat) : List Nat := if bs = [] then [] else bs.set (arnd a bs.length) c
theorem turn_bytes {bs : List Nat} (h : Bytes bs) (a : Int) {c : Nat} (hc : c < 256) : Bytes (turn bs a c) := by
  unfold turn
  split
  · intro x hx; simp at hx
  · intro x hx
    rcases List.mem_or_eq_of_mem_set hx with hx | rfl
    · exact h x hx
    · exact hc
theorem turn_length (bs : List Nat) (a : Int) (c : Nat) : (turn bs a c).length = bs.length := by
  unfold turn
  split
  · rename_i h; simp [h]
  · simp
set_option maxHeartbeats 1600000 in
set_option maxRecDepth 100000 in
theorem turned_any (v : Value) (bs : List Nat) (a : Int) (c : Nat) (w : World) (h : Rd w w.heap.size v (bs.map vb)) (hl : bs.length ≤ 1000000000) (ha : I64 a) :
    Calls Tryd.prog 26 #[v, .int .i64 a, .int .u8 (c : Nat)] w fun e w' => ∃ v', e = .returned v' ∧ Mine w' w.heap.size 5 v' ((turn bs a c).map vb) ∧ Grew w w' := by
  have hF : ∀ m : Nat, m = bs.length → Calls Tryd.prog 25 #[v, .int .i64 (m : Nat)] w fun e w' => ∃ v', e = .returned v' ∧ Mine w' w.heap.size 5 v' (bs.map vb) ∧ Grew w w' := by
    intro m hm
    have := few_any v bs m w h (by omega)
    rw [List.take_of_length_le (by omega)] at this
    exact this
  obtain ⟨A, n, cp, rfl, hn, hc⟩ := h.form
  rw [List.length_map] at hn
  have HF := Lib.hid (hF n hn)
  have HN := Lib.hid hn
  have hnl : n ≤ 1000000000 := by omega
  clear hF hn h
  rcases Nat.eq_zero_or_pos n with h0 | h0
  · have hbs : bs = [] := List.eq_nil_of_length_eq_zero (by rw [← HN.out]; exact h0)
    subst hbs
    have hn0 : n ≤ 0 := by omega
    clear h0
    go_enter Tryd.func26, Tryd.ntmps26
    go_wp2_with fail
    refine HF.out.mono ?_
    rintro e w2 ⟨v2, rfl, k1, k2⟩
    obtain ⟨A2, n2, c2, rfl, hn2⟩ := k1.slice
    have hn20 : n2 ≤ 0 := by simp at hn2; omega
    clear hn2
    go_wp2_with fail
    go_ret
    exact ⟨_, rfl, by simpa [turn] using k1, k2⟩
  · have hne : bs ≠ [] := by
      rintro rfl
      have := HN.out
      simp at this; omega
    have htu : turn bs a c = bs.set (arnd a n) c := by unfold turn; rw [if_neg hne, HN.out]
    have HTU := Lib.hid htu
    have hal := arnd_lt a n h0
    have HA := fun (w2 : World) => Lib.hid (around_any a n w2 ha h0 (by omega))
    have HA2 := Lib.hid HA
    clear hne htu HA
    go_enter Tryd.func26, Tryd.ntmps26
    go_wp2_with fail
    refine HF.out.mono ?_
    rintro e w2 ⟨v2, rfl, k1, k2⟩
    obtain ⟨A2, n2, c2, rfl, hn2⟩ := k1.slice
    rw [List.length_map, ← HN.out] at hn2
    subst hn2
    obtain ⟨r, rfl⟩ := k1.some_ (by rw [List.length_map, ← HN.out]; exact h0)
    have hcl := k1.cellAt (j := arnd a n2) (by rw [List.length_map, ← HN.out]; exact hal)
    have hfl := k1.frozenAt (arnd a n2)
    have hst := k1.store (g := r) rfl (i := arnd a n2) (by rw [List.length_map, ← HN.out]; exact hal) (.int .u8 (c : Nat))
    have hgs := k2.store k1 (arnd a n2) (.int .u8 (c : Nat))
    have hmem := k1.frozenAt (arnd a n2)
    rw [List.getElem_map] at hcl
    have hcl2 : w2.cell? ⟨r, arnd a n2, none⟩ = some (.int .u8 ((bs[arnd a n2]'(by rw [← HN.out]; exact hal) : Nat) : Int)) := hcl
    have HST := Lib.hid hst
    have HGS := Lib.hid hgs
    clear hcl hst hgs k1 hmem
    generalize arnd a n2 = q at *
    generalize bs[q]'_ = old at *
    go_wp2_with fail
    refine (HA2.out _).out.mono ?_
    rintro e w' ⟨rfl, rfl⟩
    go_wp2_with fail
    go_ret
    refine ⟨_, rfl, ?_, HGS.out⟩
    rw [HTU.out, List.map_set]
    exact HST.out
end Go.Proofs.YtoojacpkbmgaeaaDoor
