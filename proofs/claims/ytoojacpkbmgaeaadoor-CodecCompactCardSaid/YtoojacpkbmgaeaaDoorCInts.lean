/- codec.Ints: the bytes of a list of numbers. -/
import Derived.Test.YtoojacpkbmgaeaaDoorWrite
namespace Go.Proofs.YtoojacpkbmgaeaaDoor
open Go.RowKit Pl

def vi (x : Int) : Value := .int .i64 x
theorem wrap_sec (x a b : Int) : wrap64 (wrap64 (x - wrap64 (2 * a)) + b) = wrap64 (x - 2 * a + b) := by unfold wrap64; omega

theorem KeepsW.grew_of {w0 w w' : World} {g : Nat} {v : Value} {s : List Bool} (h0 : Grew w0 w) (hk : KeepsW g v w w') (hb : BW w w0.heap.size g v s) (hg : w0.heap.size ≤ g) : Grew w0 w' :=
  Keeps.then_ h0 hk fun i hi e => by
    rcases e with rfl | e
    · omega
    · have := (hb.2.lt i e).1; omega

set_option maxHeartbeats 1600000 in
theorem cints_any (v : Value) (l : List Int) (w : World) (h : Rd w w.heap.size v (l.map vi)) (hi : ∀ x ∈ l, I64 x) (hl : l.length ≤ 1000000000) (ht : Tab w w.heap.size) :
    Calls Tryd.prog 23 #[v] w fun e w' => ∃ v', e = .returned v' ∧ Mine w' w.heap.size 5 v' ((pack (ints l)).map vb) ∧ Grew w w' := by
  obtain ⟨A, n, c, rfl, hn, hc⟩ := h.form
  rw [List.length_map] at hn
  have hnl : n ≤ 1000000000 := by omega
  have HN := Lib.hid hn
  have HI := Lib.hid hi
  clear hn hi
  have ht1 : Tab (w.alloc (.cells #[.slice none 0 0, .int .i64 0] 105)) w.heap.size := ht.grew ((Keeps.refl _ w).alloc _)
  have hb1 : BW (w.alloc (.cells #[.slice none 0 0, .int .i64 0] 105)) w.heap.size w.heap.size (.slice none 0 0) [] := ⟨Box.new w _ _, Mine.nil _ _ _⟩
  have HW := Lib.hid (write_any w.heap.size w.heap.size _ [] (n : Nat) _ hb1 (Nat.le_refl _) ht1 (by simp) (by simp) (by unfold I64; omega))
  clear ht1
  go_enter Tryd.func23, Tryd.ntmps23
  go_wp2_with (go_at_call 67; refine HW.out.mono ?_; rintro e w2 ⟨rfl, v2, k1, k2, k3⟩)
  have hG2 : Grew w w2 := k2.grew_of ((Keeps.refl _ w).alloc _) hb1 (Nat.le_refl _)
  clear k2 k3 hb1
  go_loopw [4, 5, 13] (fun a b i wr => ∃ (j : Nat) (v' : Value), j ≤ n ∧ i = .int .i64 j ∧ a = .int .i64 (p1 l j) ∧ b = .int .i64 (p2 l j) ∧ BW wr w.heap.size w.heap.size v' (code n ++ codes ((seconds 0 0 l).take j)) ∧ Grew w wr)
    (fun _ _ i _ => n - (intOf i).toNat)
  case atStart => exact ⟨0, v2, by omega, rfl, rfl, rfl, by simpa [codes] using k1, hG2⟩
  case round =>
    clear k1 hG2 HW
    obtain ⟨j, v', hj, rfl, rfl, rfl, hB, hG⟩ := hrel
    by_cases hlt : j < n
    · obtain ⟨ad, u, rfl, hadb, hu, hcell⟩ := (h.grew (Nat.le_refl _) hG).at_ (j := j) (by rw [List.length_map, ← HN.out]; exact hlt)
      have hjl : j < l.length := by rw [← HN.out]; exact hlt
      obtain rfl : vi (l.getD j 0) = u := by
        rw [List.getElem?_map, List.getElem?_eq_getElem hjl] at hu
        simpa [List.getD_eq_getElem?_getD, List.getElem?_eq_getElem hjl] using hu
      have htw := ht.grew hG
      have hlen : (code n ++ codes ((seconds 0 0 l).take j)).length < 1099511500000 := by
        have h1 := code_len_le n
        have h2 := codes_len ((seconds 0 0 l).take j)
        have h3 : ((seconds 0 0 l).take j).length ≤ j := List.length_take_le _ _
        rw [List.length_append]; omega
      have hsz := hG.size
      have hst : BW wr w.heap.size w.heap.size v' (code n ++ codes ((seconds 0 0 l).take j)) → ∀ w3 v3, BW w3 w.heap.size w.heap.size v3 (code n ++ codes ((seconds 0 0 l).take j) ++ code (wrap64 (wrap64 (l.getD j 0 - wrap64 (2 * p1 l j)) + p2 l j))) → BW w3 w.heap.size w.heap.size v3 (code n ++ codes ((seconds 0 0 l).take (j + 1))) := by
        intro _ w3 v3 h3
        rw [wrap_sec, List.append_assoc, ← codes_snoc, ← seconds_take l j hjl] at h3
        exact h3
      have HST := Lib.hid (hst hB)
      have HW := Lib.hid (write_any w.heap.size w.heap.size v' _ (wrap64 (wrap64 (l.getD j 0 - wrap64 (2 * p1 l j)) + p2 l j)) wr hB (Nat.le_refl _) htw hlen hsz (wrap_I64 _))
      have hnx1 : p1 l (j + 1) = l.getD j 0 := rfl
      have hnx2 : p2 l (j + 1) = p1 l j := rfl
      have H1 := Lib.hid hnx1
      have H2 := Lib.hid hnx2
      clear hst hnx1 hnx2 hu hlen htw hsz
      unfold vi at hcell
      generalize l.getD j 0 = x at *
      go_wp2_with (go_at_call 67; refine HW.out.mono ?_; rintro e w3 ⟨rfl, v3, k1, k2, k3⟩)
      go_roundw
      case rel => exact ⟨j + 1, v3, by omega, by go_num, by rw [H1.out], by rw [H2.out], HST.out _ _ k1, k2.grew_of hG hB (Nat.le_refl _)⟩
      case measure => simp [intOf]; omega
    · obtain rfl : j = n := by omega
      have hall : code j ++ codes ((seconds 0 0 l).take j) = ints l := by
        unfold ints
        rw [List.take_of_length_le (by rw [seconds_length, ← HN.out]; omega), ← HN.out]
      rw [hall] at hB
      have hlen : (ints l).length < 1099511627776 := by
        have h1 := code_len_le l.length
        have h2 := codes_len (seconds 0 0 l)
        rw [seconds_length] at h2
        unfold ints
        rw [List.length_append]; omega
      have HD := Lib.hid (wdone_any w.heap.size w.heap.size v' _ wr hB hlen)
      have hsz := hG.size
      clear hall hlen
      go_wp2_with (go_at_call 68; refine HD.out.mono ?_; rintro e w3 ⟨v3, rfl, k1, k2⟩)
      go_ret
      exact ⟨_, rfl, k1.base_le hsz, hG.trans k2⟩
end Go.Proofs.YtoojacpkbmgaeaaDoor
