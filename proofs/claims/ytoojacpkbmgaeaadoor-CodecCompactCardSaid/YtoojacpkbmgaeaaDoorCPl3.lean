/- The plain law of CodecCompact: how long the encodings of claims and of numbers at one distance are. -/
import Derived.Test.YtoojacpkbmgaeaaDoorCPl2
namespace Go.Proofs.YtoojacpkbmgaeaaDoor
open Go.RowKit Pl

def arC (x : Clm) (s : Int) (i : Nat) : Clm := (x.1 + i * s, x.2.1 + i * s, x.2.2.1, x.2.2.2)
def arCs (x : Clm) (s : Int) (m : Nat) : List Clm := (List.range m).map (arC x s)
def arI (f s : Int) (i : Nat) : Int := f + i * s
def arIs (f s : Int) (m : Nat) : List Int := (List.range m).map (arI f s)
theorem arCs_length (x : Clm) (s : Int) (m : Nat) : (arCs x s m).length = m := by simp [arCs]
theorem arIs_length (f s : Int) (m : Nat) : (arIs f s m).length = m := by simp [arIs]
theorem arCs_succ (x : Clm) (s : Int) (m : Nat) : arCs x s (m + 1) = arCs x s m ++ [arC x s m] := by simp [arCs, List.range_succ]
theorem arIs_succ (f s : Int) (m : Nat) : arIs f s (m + 1) = arIs f s m ++ [arI f s m] := by simp [arIs, List.range_succ]
theorem arCs_take (x : Clm) (s : Int) (m k : Nat) (h : k ≤ m) : (arCs x s m).take k = arCs x s k := by
  simp [arCs, ← List.map_take, List.take_range, Nat.min_eq_left h]
theorem arIs_take (f s : Int) (m k : Nat) (h : k ≤ m) : (arIs f s m).take k = arIs f s k := by
  simp [arIs, ← List.map_take, List.take_range, Nat.min_eq_left h]
theorem arCs_getD (x : Clm) (s : Int) (m i : Nat) (h : i < m) : (arCs x s m).getD i zc = arC x s i := by
  simp [arCs, List.getD_eq_getElem?_getD, h]
theorem arIs_getD (f s : Int) (m i : Nat) (h : i < m) : (arIs f s m).getD i 0 = arI f s i := by
  simp [arIs, List.getD_eq_getElem?_getD, h]

theorem cnums_snoc_aux (b a : Clm) (cs : List Clm) (c : Clm) : cnums b a (cs ++ [c]) = cnums b a cs ++ c4 ((b :: a :: cs).getD cs.length zc) ((a :: cs).getD cs.length zc) c := by
  induction cs generalizing b a with
  | nil => simp [cnums]
  | cons d cs ih =>
    simp only [List.cons_append, cnums, ih a d, List.append_assoc, List.length_cons, List.getD_cons_succ]
theorem seconds_snoc_aux (b a : Int) (l : List Int) (c : Int) : seconds b a (l ++ [c]) = seconds b a l ++ [wrap64 (c - 2 * (a :: l).getD l.length 0 + (b :: a :: l).getD l.length 0)] := by
  induction l generalizing b a with
  | nil => simp [seconds]
  | cons d l ih =>
    simp only [List.cons_append, seconds, ih a d, List.length_cons, List.getD_cons_succ]
theorem wrap_zero : wrap64 0 = 0 := by unfold wrap64; omega
theorem wrap_zero' {x : Int} (h : x = 0) : wrap64 x = 0 := by subst h; exact wrap_zero
theorem c4_ar (x : Clm) (s : Int) (m : Nat) : c4 (arC x s m) (arC x s (m + 1)) (arC x s (m + 2)) = [0, 0, 0, 0] := by
  have e1 : ((m + 1 : Nat) : Int) * s = m * s + s := by rw [Int.natCast_add, Int.add_mul]; simp
  have e2 : ((m + 2 : Nat) : Int) * s = m * s + 2 * s := by rw [Int.natCast_add, Int.add_mul]; simp
  unfold c4 n0 n1 n2 n3 arC
  simp only [e1, e2]
  generalize (m : Int) * s = t
  rw [wrap_zero' (by omega), wrap_zero' (by omega), wrap_zero' (by omega), wrap_zero' (by omega)]
theorem arI_flat (f s : Int) (m : Nat) : wrap64 (arI f s (m + 2) - 2 * arI f s (m + 1) + arI f s m) = 0 := by
  have e1 : ((m + 1 : Nat) : Int) * s = m * s + s := by rw [Int.natCast_add, Int.add_mul]; simp
  have e2 : ((m + 2 : Nat) : Int) * s = m * s + 2 * s := by rw [Int.natCast_add, Int.add_mul]; simp
  unfold arI
  rw [e1, e2]
  generalize (m : Int) * s = t
  exact wrap_zero' (by omega)
theorem codes_zeros : (codes [0, 0, 0, 0]).length = 4 := by decide +kernel
theorem codes_zero : (codes [0]).length = 1 := by decide +kernel
theorem cl_len_step (x : Clm) (s : Int) (m : Nat) : (codes (cnums zc zc (arCs x s (m + 3)))).length = (codes (cnums zc zc (arCs x s (m + 2)))).length + 4 := by
  rw [arCs_succ, cnums_snoc_aux, arCs_length]
  have e1 : (zc :: zc :: arCs x s (m + 2)).getD (m + 2) zc = arC x s m := by
    rw [List.getD_cons_succ, List.getD_cons_succ]; exact arCs_getD x s _ _ (by omega)
  have e2 : (zc :: arCs x s (m + 2)).getD (m + 2) zc = arC x s (m + 1) := by
    rw [List.getD_cons_succ]; exact arCs_getD x s _ _ (by omega)
  rw [e1, e2, c4_ar, codes_append, List.length_append, codes_zeros]
theorem ci_len_step (f s : Int) (m : Nat) : (codes (seconds 0 0 (arIs f s (m + 3)))).length = (codes (seconds 0 0 (arIs f s (m + 2)))).length + 1 := by
  rw [arIs_succ, seconds_snoc_aux, arIs_length]
  have e1 : ((0 : Int) :: 0 :: arIs f s (m + 2)).getD (m + 2) 0 = arI f s m := by
    rw [List.getD_cons_succ, List.getD_cons_succ]; exact arIs_getD f s _ _ (by omega)
  have e2 : ((0 : Int) :: arIs f s (m + 2)).getD (m + 2) 0 = arI f s (m + 1) := by
    rw [List.getD_cons_succ]; exact arIs_getD f s _ _ (by omega)
  rw [e1, e2, arI_flat, codes_append, List.length_append, codes_zero]
theorem cl_len (x : Clm) (s : Int) (m : Nat) : (codes (cnums zc zc (arCs x s (m + 2)))).length = (codes (cnums zc zc (arCs x s 2))).length + 4 * m := by
  induction m with
  | zero => rfl
  | succ m ih => rw [show m + 1 + 2 = m + 3 from rfl, cl_len_step, ih]; omega
theorem ci_len (f s : Int) (m : Nat) : (codes (seconds 0 0 (arIs f s (m + 2)))).length = (codes (seconds 0 0 (arIs f s 2))).length + m := by
  induction m with
  | zero => rfl
  | succ m ih => rw [show m + 1 + 2 = m + 3 from rfl, ci_len_step, ih]; omega
theorem code_len (n : Int) : (code n).length = idx (zig n) + 1 + width (idx (zig n)) := by simp [code, un, bin_length]; omega
theorem code_len_a {m : Nat} (h : 16 ≤ m) (h2 : m < 128) : (code (m : Int)).length = 11 := by
  have hz : zig (m : Int) = 2 * m := by unfold zig; rw [if_pos (by omega)]; omega
  have hi : idx (2 * m) = 2 := by unfold idx; rw [if_neg (by omega), if_neg (by omega), if_pos (by omega)]
  rw [code_len, hz, hi]; rfl
theorem code_len_b {m : Nat} (h : 16 ≤ m) (h2 : m < 1000) : 11 ≤ (code (m : Int)).length ∧ (code (m : Int)).length ≤ 20 := by
  by_cases h3 : m < 128
  · rw [code_len_a h h3]; omega
  · have hz : zig (m : Int) = 2 * m := by unfold zig; rw [if_pos (by omega)]; omega
    have hi : idx (2 * m) = 3 := by unfold idx; rw [if_neg (by omega), if_neg (by omega), if_neg (by omega), if_pos (by omega)]
    rw [code_len, hz, hi]; exact ⟨by decide, by decide⟩
theorem compact_claims (x : Clm) (s : Int) (n : Nat) (h1 : 16 ≤ n) (h2 : n ≤ 79) :
    (pack (cbits (arCs x s (n + 64)))).length ≤ (pack (cbits (arCs x s n))).length + 34 ∧ 4 * (n + 62) / 8 ≤ (pack (cbits (arCs x s (n + 64)))).length := by
  obtain ⟨m, rfl⟩ : ∃ m, n = m + 2 := ⟨n - 2, by omega⟩
  have e1 := cl_len x s m
  have e2 := cl_len x s (m + 64)
  have c1 := code_len_a h1 (by omega)
  have c2 := code_len_b (m := m + 2 + 64) (by omega) (by omega)
  rw [pack_length, pack_length]
  unfold cbits
  rw [List.length_append, List.length_append, arCs_length, arCs_length]
  rw [show m + 64 + 2 = m + 2 + 64 by omega] at e2
  rw [e1, e2]
  omega
theorem compact_ints (f s : Int) (n : Nat) (h1 : 16 ≤ n) (h2 : n ≤ 79) :
    (pack (ints (arIs f s (n + 64)))).length ≤ (pack (ints (arIs f s n))).length + 10 := by
  obtain ⟨m, rfl⟩ : ∃ m, n = m + 2 := ⟨n - 2, by omega⟩
  have e1 := ci_len f s m
  have e2 := ci_len f s (m + 64)
  have c1 := code_len_a h1 (by omega)
  have c2 := code_len_b (m := m + 2 + 64) (by omega) (by omega)
  rw [pack_length, pack_length]
  unfold ints
  rw [List.length_append, List.length_append, arIs_length, arIs_length]
  rw [show m + 64 + 2 = m + 2 + 64 by omega] at e2
  rw [e1, e2]
  omega
theorem pack_pos {s : List Bool} (h : 0 < s.length) : 0 < (pack s).length := by rw [pack_length]; omega
theorem cbits_pos (l : List Clm) : 0 < (cbits l).length := by
  unfold cbits
  rw [List.length_append, code_len]
  omega
end Go.Proofs.YtoojacpkbmgaeaaDoor
