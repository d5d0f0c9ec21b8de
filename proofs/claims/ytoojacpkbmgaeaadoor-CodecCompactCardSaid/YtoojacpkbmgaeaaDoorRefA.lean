/- The reference: copies of slices, numbers, streams of bits. -/
import Derived.Test.YtoojacpkbmgaeaaDoorSame
namespace Go.Proofs.YtoojacpkbmgaeaaDoor
open Go.RowKit Pl

def vbo (b : Bool) : Value := .bool b
theorem slInt : SlT Tryd.prog 22 3 8 (.int .i64 0) := ⟨Tryd.underlying22, by kernel_rfl, rfl, by decide⟩
theorem slBool : SlT Tryd.prog 108 4 1 (.bool false) := ⟨Tryd.underlying108, by kernel_rfl, rfl, by decide⟩
theorem one_vi (bs : List Int) : ∀ u ∈ bs.map vi, u.oneCell' = true := by
  intro u hu
  obtain ⟨x, _, rfl⟩ := List.mem_map.1 hu
  rfl
theorem one_vbo (bs : List Bool) : ∀ u ∈ bs.map vbo, u.oneCell' = true := by
  intro u hu
  obtain ⟨x, _, rfl⟩ := List.mem_map.1 hu
  rfl
theorem Rd.take {w : World} {B : Nat} {A : Option Addr} {n c : Nat} {xs : List Value} (h : Rd w B (.slice A n c) xs) {m : Nat} (hm : m ≤ xs.length) : Rd w B (.slice A m c) (xs.take m) := by
  obtain ⟨A', c', hv, hc, hx⟩ := h
  injection hv with hA _ hcc
  subst hA hcc
  have hl : (xs.take m).length = m := by rw [List.length_take]; omega
  refine ⟨A, c, by rw [hl], by omega, fun h0 => ?_⟩
  obtain ⟨ad, rfl, hb, hcell⟩ := hx (by omega)
  refine ⟨ad, rfl, hb, fun j u hu => hcell j u ?_⟩
  rw [List.getElem?_take] at hu
  split at hu
  · exact hu
  · cases hu

set_option maxHeartbeats 1600000 in
theorem few_any (v : Value) (xs : List Nat) (m : Nat) (w : World) (h : Rd w w.heap.size v (xs.map vb)) (hm : m ≤ 1000000000) :
    Calls Tryd.prog 25 #[v, .int .i64 (m : Nat)] w fun e w' => ∃ v', e = .returned v' ∧ Mine w' w.heap.size 5 v' ((xs.take m).map vb) ∧ Grew w w' := by
  obtain ⟨A, n, c, rfl, hn, hc⟩ := h.form
  rw [List.length_map] at hn
  have HN := Lib.hid hn
  clear hn
  by_cases hnm : n ≤ m
  · have t0 : ¬ ((m : Int) < (n : Int)) := by omega
    have h2 : Rd w w.heap.size (.slice A n c) ((xs.take m).map vb) := by
      rw [List.take_of_length_le (by rw [← HN.out]; exact hnm)]; exact h
    go_enter Tryd.func25, Tryd.ntmps25
    go_wp2_with (at_builtin; refine app_any slU8 rfl (.tmp 6) (.tmp 12) rfl rfl (Mine.nil w w.heap.size _) rfl h2 (one_vb _) (by simp; omega) (Nat.le_refl _) ?k)
    case k =>
    intro A m cap w1 hm hown hk hr
    go_wp2
    go_ret
    exact ⟨_, rfl, by simpa using hown, Keeps.mono hk (fun i hi e => by cases e)⟩
  · have t0 : (m : Int) < (n : Int) := by omega
    have h2 : Rd w w.heap.size (.slice A m c) ((xs.take m).map vb) := by
      rw [List.map_take]
      exact h.take (by rw [List.length_map, ← HN.out]; omega)
    obtain ⟨ad, _, rfl, _⟩ := h.at_ (j := 0) (by rw [List.length_map, ← HN.out]; omega)
    go_enter Tryd.func25, Tryd.ntmps25
    go_wp2_with (at_builtin; refine app_any slU8 rfl (.tmp 6) (.tmp 12) rfl rfl (Mine.nil w w.heap.size _) rfl h2 (one_vb _) (by simp; omega) (Nat.le_refl _) ?k)
    case k =>
    intro A m cap w1 hm hown hk hr
    go_wp2
    go_ret
    exact ⟨_, rfl, by simpa using hown, Keeps.mono hk (fun i hi e => by cases e)⟩

set_option maxHeartbeats 1600000 in
theorem firstInts_any (v : Value) (xs : List Int) (m : Nat) (w : World) (h : Rd w w.heap.size v (xs.map vi)) (hm : m ≤ 1000000000) :
    Calls Tryd.prog 22 #[v, .int .i64 (m : Nat)] w fun e w' => ∃ v', e = .returned v' ∧ Mine w' w.heap.size 3 v' ((xs.take m).map vi) ∧ Grew w w' := by
  obtain ⟨A, n, c, rfl, hn, hc⟩ := h.form
  rw [List.length_map] at hn
  have HN := Lib.hid hn
  clear hn
  by_cases hnm : n ≤ m
  · have t0 : ¬ ((m : Int) < (n : Int)) := by omega
    have h2 : Rd w w.heap.size (.slice A n c) ((xs.take m).map vi) := by
      rw [List.take_of_length_le (by rw [← HN.out]; exact hnm)]; exact h
    go_enter Tryd.func22, Tryd.ntmps22
    go_wp2_with (at_builtin; refine app_any slInt rfl (.tmp 6) (.tmp 12) rfl rfl (Mine.nil w w.heap.size _) rfl h2 (one_vi _) (by simp; omega) (Nat.le_refl _) ?k)
    case k =>
    intro A m cap w1 hm hown hk hr
    go_wp2
    go_ret
    exact ⟨_, rfl, by simpa using hown, Keeps.mono hk (fun i hi e => by cases e)⟩
  · have t0 : (m : Int) < (n : Int) := by omega
    have h2 : Rd w w.heap.size (.slice A m c) ((xs.take m).map vi) := by
      rw [List.map_take]
      exact h.take (by rw [List.length_map, ← HN.out]; omega)
    obtain ⟨ad, _, rfl, _⟩ := h.at_ (j := 0) (by rw [List.length_map, ← HN.out]; omega)
    go_enter Tryd.func22, Tryd.ntmps22
    go_wp2_with (at_builtin; refine app_any slInt rfl (.tmp 6) (.tmp 12) rfl rfl (Mine.nil w w.heap.size _) rfl h2 (one_vi _) (by simp; omega) (Nat.le_refl _) ?k)
    case k =>
    intro A m cap w1 hm hown hk hr
    go_wp2
    go_ret
    exact ⟨_, rfl, by simpa using hown, Keeps.mono hk (fun i hi e => by cases e)⟩

theorem ret_int {k : IntKind} {a b : Int} (h : a = b) : Ending.returned (.int k a) = .returned (.int k b) := by rw [h]
/- n modulo most, never below 0 -/
def arnd (n : Int) (m : Nat) : Nat := (if n < 0 then -(n + 1) else n).toNat % m
theorem arnd_lt (n : Int) (m : Nat) (h : 0 < m) : arnd n m < m := Nat.mod_lt _ h
theorem around_any (n : Int) (m : Nat) (w : World) (hn : I64 n) (hm : 0 < m) (hm2 : m ≤ 9223372036854775807) :
    Calls Tryd.prog 33 #[.int .i64 n, .int .i64 (m : Nat)] w fun e w' => e = .returned (.int .i64 (arnd n m : Nat)) ∧ w = w' := by
  obtain ⟨h1, h2⟩ := hn
  by_cases h0 : n < 0
  · have ha : ((-(n + 1)) % (m : Int)) = ((arnd n m : Nat) : Int) := by
      unfold arnd
      rw [if_pos h0, Int.natCast_emod, Int.toNat_of_nonneg (by omega)]
    have hmz : ((m : Int) == 0) = false := by rw [beq_eq_false_iff_ne]; omega
    have HA := Lib.hid ha
    clear ha
    go_enter Tryd.func33, Tryd.ntmps33
    go_wp2_with fail
    go_ret
    exact ⟨ret_int (by rw [← HA.out, ← Int.neg_tmod, Int.tmod_eq_emod_of_nonneg (by omega)]), rfl⟩
  · have ha : (n % (m : Int)) = ((arnd n m : Nat) : Int) := by
      unfold arnd
      rw [if_neg h0, Int.natCast_emod, Int.toNat_of_nonneg (by omega)]
    have hmz : ((m : Int) == 0) = false := by rw [beq_eq_false_iff_ne]; omega
    have HA := Lib.hid ha
    clear ha
    go_enter Tryd.func33, Tryd.ntmps33
    go_wp2_with fail
    go_ret
    exact ⟨by rw [← HA.out]; rfl, rfl⟩
theorem zigzag_any (n : Int) (w : World) (hn : I64 n) :
    Calls Tryd.prog 104 #[.int .i64 n] w fun e w' => e = .returned (.int .u64 (zig n : Nat)) ∧ w = w' := by
  obtain ⟨h1, h2⟩ := hn
  by_cases h0 : n < 0
  · have hz : ((zig n : Nat) : Int) = -2 * n - 1 := by unfold zig; rw [if_neg (by omega)]; omega
    have HZ := Lib.hid hz
    clear hz
    go_enter Tryd.func104, Tryd.ntmps104
    go_wp2_with fail
    go_ret
    exact ⟨by rw [HZ.out]; go_num, rfl⟩
  · have hz : ((zig n : Nat) : Int) = 2 * n := by unfold zig; rw [if_pos (by omega)]; omega
    have HZ := Lib.hid hz
    clear hz
    go_enter Tryd.func104, Tryd.ntmps104
    go_wp2_with fail
    go_ret
    exact ⟨by rw [HZ.out]; go_num, rfl⟩
theorem count_any (k : Nat) (hk : k ≤ 64) (w : World) :
    Calls Tryd.prog 127 #[.int .i64 (k : Nat)] w fun e w' => e = .returned (.int .i64 (k : Nat)) ∧ w = w' := by
  have h1 : ¬ ((k : Int) < 0) := by omega
  have h2 : ¬ ((64 : Int) < (k : Int)) := by omega
  rcases Nat.eq_zero_or_pos k with rfl | h3
  · go_enter Tryd.func127, Tryd.ntmps127
    go_wp2
    go_ret
    exact ⟨rfl, rfl⟩
  · go_enter Tryd.func127, Tryd.ntmps127
    go_wp2
    go_ret
    exact ⟨rfl, rfl⟩
end Go.Proofs.YtoojacpkbmgaeaaDoor
