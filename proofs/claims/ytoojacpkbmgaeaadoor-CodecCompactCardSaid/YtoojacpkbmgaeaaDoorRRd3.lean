/- The reference's reader: Bits. -/
import Derived.Test.YtoojacpkbmgaeaaDoorRRd2
namespace Go.Proofs.YtoojacpkbmgaeaaDoor
open Go.RowKit Pl

set_option maxHeartbeats 6400000 in
set_option maxRecDepth 100000 in
theorem rrbits_ok (g base : Nat) (v : Value) (s : List Bool) (a k : Nat) (w : World) (h : RR w base g v s a 0) (hk : k ≤ 64) (hs : a + k ≤ s.length) :
    Calls Tryd.prog 114 #[.pointer (some ⟨g, 0, none⟩), .int .i64 (k : Nat)] w fun e w' => e = .returned (.int .u64 (val ((s.drop a).take k) : Nat)) ∧ KeepsR g w w' ∧ RR w' base g v s (a + k) 0 := by
  have hsm := h.small
  obtain ⟨A, n, c, rfl, hn⟩ := h.form
  have HN := Lib.hid hn
  have hsn : n ≤ 1000000000 := by omega
  have han : a + k ≤ n := by omega
  have HC := Lib.hid (count_any k hk w)
  have c0 := h.box.cell 0
  have c1 := h.box.cell 1
  have c2 := h.box.cell 2
  simp only [List.getElem?_toArray, List.getElem?_cons_zero, List.getElem?_cons_succ] at c0 c1 c2
  have hwr : IntKind.i64.wrap ((n : Int) - (a : Int)) = (n : Int) - (a : Int) := IntWalk.i64_in _ (by omega)
  have hd1 : decide ((n : Int) - (a : Int) < (k : Int)) = false := by rw [decide_eq_false_iff_not]; omega
  clear hn
  go_enter Tryd.func114, Tryd.ntmps114
  go_wp2_with (go_at_call 127; refine HC.out.mono ?_; rintro e w' ⟨rfl, rfl⟩)
  go_quiet (fail)
  go_wp2_with fail
  go_loopw [6, 7] (fun x i wr => ∃ (j : Nat), j ≤ k ∧ i = .int .i64 j ∧ x = .int .u64 (val ((s.drop a).take j) : Nat) ∧ RR wr base g (.slice A n c) s (a + j) 0 ∧ KeepsR g w wr) (fun _ i _ => k - (intOf i).toNat)
  case atStart => exact ⟨0, by omega, rfl, by simp [val], h.drewN _, (KeepsR.refl _ _).drewN _⟩
  case round =>
    clear c0 c1 c2 hwr hd1 h
    obtain ⟨j, hj, rfl, rfl, hW, hK⟩ := hrel
    have c0 := hW.box.cell 0
    have c1 := hW.box.cell 1
    have c2 := hW.box.cell 2
    have f1 := hW.box.frozen 1
    simp only [List.getElem?_toArray, List.getElem?_cons_zero, List.getElem?_cons_succ] at c0 c1 c2
    have hvl : val ((s.drop a).take j) < 2 ^ j := by
      have h1 := val_lt ((s.drop a).take j)
      have h2 : ((s.drop a).take j).length ≤ j := List.length_take_le _ _
      exact Nat.lt_of_lt_of_le h1 (Nat.pow_le_pow_right (by omega) h2)
    by_cases hlt : j < k
    · have hls : a + j < s.length := by omega
      obtain ⟨r, rfl, hcb⟩ := hW.bit hls
      have htk : (s.drop a).take (j + 1) = (s.drop a).take j ++ [s[a + j]] := by
        rw [List.take_add_one, List.getElem?_drop, List.getElem?_eq_getElem hls]; rfl
      have hvs : val ((s.drop a).take (j + 1)) = 2 * val ((s.drop a).take j) + s[a + j].toNat := by rw [htk, val_snoc]
      have HVS := Lib.hid hvs
      have hv63 : val ((s.drop a).take j) < 9223372036854775808 := by
        have : 2 ^ j ≤ 2 ^ 63 := Nat.pow_le_pow_right (by omega) (by omega)
        have e63 : (2 : Nat) ^ 63 = 9223372036854775808 := by decide
        omega
      have ht1 : decide ((j : Int) < (k : Int)) = true := by rw [decide_eq_true_eq]; omega
      have hjn : a + j < n := by omega
      have hjI : (a : Int) + (j : Int) < (n : Int) := by omega
      have htn : ((a : Int) + (j : Int)).toNat = a + j := by omega
      have hp0 : (0 : Int) ≤ (a : Int) + (j : Int) := by omega
      clear hvs htk hvl
      generalize val ((s.drop a).take j) = q at *
      cases hb : s[a + j] with
      | false =>
        rw [hb] at hcb
        have HB := Lib.hid hb
        clear hb
        go_wp2_with fail
        go_quiet (fail)
        go_wp2_with fail
        go_roundw
        case rel =>
          have ec : (a : Int) + (j : Int) + 1 = ((a + (j + 1) : Nat) : Int) := by omega
          rw [ec]
          exact ⟨j + 1, by omega, by go_num, by rw [HVS.out, HB.out]; go_num, (hW.drewN _).setAt _ (by omega), (hK.drewN _).trans (KeepsR.set g _ 1 _)⟩
        case measure => simp [intOf]; omega
      | true =>
        rw [hb] at hcb
        have HB := Lib.hid hb
        clear hb
        go_wp2_with fail
        go_quiet (fail)
        go_wp2_with fail
        go_roundw
        case rel =>
          have ec : (a : Int) + (j : Int) + 1 = ((a + (j + 1) : Nat) : Int) := by omega
          rw [ec]
          exact ⟨j + 1, by omega, by go_num, by rw [HVS.out, HB.out]; go_num, (hW.drewN _).setAt _ (by omega), (hK.drewN _).trans (KeepsR.set g _ 1 _)⟩
        case measure => simp [intOf]; omega
    · obtain rfl : j = k := by omega
      have ht1 : decide ((j : Int) < (j : Int)) = false := by simp
      go_wp2_with fail
      go_ret
      exact ⟨rfl, hK, hW⟩

set_option maxHeartbeats 3200000 in
set_option maxRecDepth 100000 in
theorem rrbits_short (g base : Nat) (v : Value) (s : List Bool) (a k : Nat) (w : World) (h : RR w base g v s a 0) (hk : k ≤ 64) (hs : s.length < a + k) :
    Calls Tryd.prog 114 #[.pointer (some ⟨g, 0, none⟩), .int .i64 (k : Nat)] w fun e w' => e = .returned (.int .u64 0) ∧ KeepsR g w w' ∧ RR w' base g v s a 3 := by
  have hsm := h.small
  have hhe := h.here
  obtain ⟨A, n, c, rfl, hn⟩ := h.form
  have hsn : n ≤ 1000000000 := by omega
  have hka : 1 ≤ k := by omega
  have HC := Lib.hid (count_any k hk w)
  have c0 := h.box.cell 0
  have c1 := h.box.cell 1
  have c2 := h.box.cell 2
  have f2 := h.box.frozen 2
  simp only [List.getElem?_toArray, List.getElem?_cons_zero, List.getElem?_cons_succ] at c0 c1 c2
  have hwr : IntKind.i64.wrap ((n : Int) - (a : Int)) = (n : Int) - (a : Int) := IntWalk.i64_in _ (by omega)
  have hd1 : decide ((n : Int) - (a : Int) < (k : Int)) = true := by rw [decide_eq_true_eq]; omega
  have ht1 : decide ((0 : Int) < (k : Int)) = true := by rw [decide_eq_true_eq]; omega
  clear hn
  go_enter Tryd.func114, Tryd.ntmps114
  go_wp2_with (go_at_call 127; refine HC.out.mono ?_; rintro e w' ⟨rfl, rfl⟩)
  go_quiet (fail)
  go_wp2_with fail
  refine wp_loop_rounds 1 ?_
  rw [rounds_succ]
  go_wp2_with fail
  go_ret
  exact ⟨rfl, ((KeepsR.refl _ _).drewN _).trans (KeepsR.set g _ 2 _), (h.drewN _).setErr 3⟩

set_option maxHeartbeats 3200000 in
set_option maxRecDepth 100000 in
theorem rrbits_err (g base : Nat) (v : Value) (s : List Bool) (a : Nat) (er : Int) (w : World) (h : RR w base g v s a er) (he : er = 3 ∨ er = 4) :
    Calls Tryd.prog 114 #[.pointer (some ⟨g, 0, none⟩), .int .i64 0] w fun e w' => e = .returned (.int .u64 0) ∧ KeepsR g w w' ∧ RR w' base g v s a er := by
  have HC := Lib.hid (count_any 0 (by omega) w)
  have c2 := h.box.cell 2
  simp only [List.getElem?_toArray, List.getElem?_cons_zero, List.getElem?_cons_succ] at c2
  have hde : (er == 0) = false := by rcases he with rfl | rfl <;> rfl
  clear he
  go_enter Tryd.func114, Tryd.ntmps114
  go_wp2_with (go_at_call 127; refine HC.out.mono ?_; rintro e w' ⟨rfl, rfl⟩)
  go_quiet (fail)
  go_wp2_with fail
  refine wp_loop_rounds 1 ?_
  rw [rounds_succ]
  go_wp2_with fail
  go_ret
  exact ⟨rfl, (KeepsR.refl _ _).drewN _, h.drewN _⟩
end Go.Proofs.YtoojacpkbmgaeaaDoor
