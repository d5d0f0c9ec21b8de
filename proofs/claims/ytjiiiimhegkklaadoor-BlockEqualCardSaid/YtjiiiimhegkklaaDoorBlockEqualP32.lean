/- The plain law of CodecCompact: how long the encodings of claims and of numbers at one distance are. What the law BlockEqual needs beside the walks: a claim whose last number is turned, encodings that differ, slices of claims. -/
import Derived.Test.YtjiiiimhegkklaaDoorBlockEqualP15
import Derived.Test.YtjiiiimhegkklaaDoorBlockEqualP18
import Derived.Test.YtjiiiimhegkklaaDoorBlockEqualP31
namespace Go.Proofs.YtjiiiimhegkklaaDoor
open Go.RowKit Pl

def arC (x : Clm) (s : Int) (i : Nat) : Clm := (x.1 + i * s, x.2.1 + i * s, x.2.2.1, x.2.2.2)
def arCs (x : Clm) (s : Int) (m : Nat) : List Clm := (List.range m).map (arC x s)
def arI (f s : Int) (i : Nat) : Int := f + i * s
def arIs (f s : Int) (m : Nat) : List Int := (List.range m).map (arI f s)
theorem arCs_length (x : Clm) (s : Int) (m : Nat) : (arCs x s m).length = m := by simp [arCs]
theorem arIs_length (f s : Int) (m : Nat) : (arIs f s m).length = m := by simp [arIs]
theorem arCs_succ (x : Clm) (s : Int) (m : Nat) : arCs x s (m + 1) = arCs x s m ++ [arC x s m] := by simp [arCs, List.range_succ]
theorem arIs_succ (f s : Int) (m : Nat) : arIs f s (m + 1) = arIs f s m ++ [arI f s m] := by simp [arIs, List.range_succ]
theorem arCs_take (x : Clm) (s : Int) (m k : Nat) (h : k ≤ m) : (arCs x s m).take k = arCs x s k := by
  simp [arCs, ← List.map_take, List.take_range, Nat.min_eq_left h]
theorem arIs_take (f s : Int) (m k : Nat) (h : k ≤ m) : (arIs f s m).take k = arIs f s k := by
  simp [arIs, ← List.map_take, List.take_range, Nat.min_eq_left h]
theorem arCs_getD (x : Clm) (s : Int) (m i : Nat) (h : i < m) : (arCs x s m).getD i zc = arC x s i := by
  simp [arCs, List.getD_eq_getElem?_getD, h]
theorem arIs_getD (f s : Int) (m i : Nat) (h : i < m) : (arIs f s m).getD i 0 = arI f s i := by
  simp [arIs, List.getD_eq_getElem?_getD, h]

theorem cnums_snoc_aux (b a : Clm) (cs : List Clm) (c : Clm) : cnums b a (cs ++ [c]) = cnums b a cs ++ c4 ((b :: a :: cs).getD cs.length zc) ((a :: cs).getD cs.length zc) c := by
  induction cs generalizing b a with
  | nil => simp [cnums]
  | cons d cs ih =>
    simp only [List.cons_append, cnums, ih a d, List.append_assoc, List.length_cons, List.getD_cons_succ]
theorem seconds_snoc_aux (b a : Int) (l : List Int) (c : Int) : seconds b a (l ++ [c]) = seconds b a l ++ [wrap64 (c - 2 * (a :: l).getD l.length 0 + (b :: a :: l).getD l.length 0)] := by
  induction l generalizing b a with
  | nil => simp [seconds]
  | cons d l ih =>
    simp only [List.cons_append, seconds, ih a d, List.length_cons, List.getD_cons_succ]
theorem wrap_zero : wrap64 0 = 0 := by unfold wrap64; omega
theorem wrap_zero' {x : Int} (h : x = 0) : wrap64 x = 0 := by subst h; exact wrap_zero
theorem c4_ar (x : Clm) (s : Int) (m : Nat) : c4 (arC x s m) (arC x s (m + 1)) (arC x s (m + 2)) = [0, 0, 0, 0] := by
  have e1 : ((m + 1 : Nat) : Int) * s = m * s + s := by rw [Int.natCast_add, Int.add_mul]; simp
  have e2 : ((m + 2 : Nat) : Int) * s = m * s + 2 * s := by rw [Int.natCast_add, Int.add_mul]; simp
  unfold c4 n0 n1 n2 n3 arC
  simp only [e1, e2]
  generalize (m : Int) * s = t
  rw [wrap_zero' (by omega), wrap_zero' (by omega), wrap_zero' (by omega), wrap_zero' (by omega)]
theorem arI_flat (f s : Int) (m : Nat) : wrap64 (arI f s (m + 2) - 2 * arI f s (m + 1) + arI f s m) = 0 := by
  have e1 : ((m + 1 : Nat) : Int) * s = m * s + s := by rw [Int.natCast_add, Int.add_mul]; simp
  have e2 : ((m + 2 : Nat) : Int) * s = m * s + 2 * s := by rw [Int.natCast_add, Int.add_mul]; simp
  unfold arI
  rw [e1, e2]
  generalize (m : Int) * s = t
  exact wrap_zero' (by omega)
theorem codes_zeros : (codes [0, 0, 0, 0]).length = 4 := by decide +kernel
theorem codes_zero : (codes [0]).length = 1 := by decide +kernel
theorem cl_len_step (x : Clm) (s : Int) (m : Nat) : (codes (cnums zc zc (arCs x s (m + 3)))).length = (codes (cnums zc zc (arCs x s (m + 2)))).length + 4 := by
  rw [arCs_succ, cnums_snoc_aux, arCs_length]
  have e1 : (zc :: zc :: arCs x s (m + 2)).getD (m + 2) zc = arC x s m := by
    rw [List.getD_cons_succ, List.getD_cons_succ]; exact arCs_getD x s _ _ (by omega)
  have e2 : (zc :: arCs x s (m + 2)).getD (m + 2) zc = arC x s (m + 1) := by
    rw [List.getD_cons_succ]; exact arCs_getD x s _ _ (by omega)
  rw [e1, e2, c4_ar, codes_append, List.length_append, codes_zeros]
theorem ci_len_step (f s : Int) (m : Nat) : (codes (seconds 0 0 (arIs f s (m + 3)))).length = (codes (seconds 0 0 (arIs f s (m + 2)))).length + 1 := by
  rw [arIs_succ, seconds_snoc_aux, arIs_length]
  have e1 : ((0 : Int) :: 0 :: arIs f s (m + 2)).getD (m + 2) 0 = arI f s m := by
    rw [List.getD_cons_succ, List.getD_cons_succ]; exact arIs_getD f s _ _ (by omega)
  have e2 : ((0 : Int) :: arIs f s (m + 2)).getD (m + 2) 0 = arI f s (m + 1) := by
    rw [List.getD_cons_succ]; exact arIs_getD f s _ _ (by omega)
  rw [e1, e2, arI_flat, codes_append, List.length_append, codes_zero]
theorem cl_len (x : Clm) (s : Int) (m : Nat) : (codes (cnums zc zc (arCs x s (m + 2)))).length = (codes (cnums zc zc (arCs x s 2))).length + 4 * m := by
  induction m with
  | zero => rfl
  | succ m ih => rw [show m + 1 + 2 = m + 3 from rfl, cl_len_step, ih]; omega
theorem ci_len (f s : Int) (m : Nat) : (codes (seconds 0 0 (arIs f s (m + 2)))).length = (codes (seconds 0 0 (arIs f s 2))).length + m := by
  induction m with
  | zero => rfl
  | succ m ih => rw [show m + 1 + 2 = m + 3 from rfl, ci_len_step, ih]; omega
theorem code_len (n : Int) : (code n).length = idx (zig n) + 1 + width (idx (zig n)) := by simp [code, un, bin_length]; omega
theorem code_len_a {m : Nat} (h : 16 ≤ m) (h2 : m < 128) : (code (m : Int)).length = 11 := by
  have hz : zig (m : Int) = 2 * m := by unfold zig; rw [if_pos (by omega)]; omega
  have hi : idx (2 * m) = 2 := by unfold idx; rw [if_neg (by omega), if_neg (by omega), if_pos (by omega)]
  rw [code_len, hz, hi]; rfl
theorem code_len_b {m : Nat} (h : 16 ≤ m) (h2 : m < 1000) : 11 ≤ (code (m : Int)).length ∧ (code (m : Int)).length ≤ 20 := by
  by_cases h3 : m < 128
  · rw [code_len_a h h3]; omega
  · have hz : zig (m : Int) = 2 * m := by unfold zig; rw [if_pos (by omega)]; omega
    have hi : idx (2 * m) = 3 := by unfold idx; rw [if_neg (by omega), if_neg (by omega), if_neg (by omega), if_pos (by omega)]
    rw [code_len, hz, hi]; exact ⟨by decide, by decide⟩
theorem compact_claims (x : Clm) (s : Int) (n : Nat) (h1 : 16 ≤ n) (h2 : n ≤ 79) :
    (pack (cbits (arCs x s (n + 64)))).length ≤ (pack (cbits (arCs x s n))).length + 34 ∧ 4 * (n + 62) / 8 ≤ (pack (cbits (arCs x s (n + 64)))).length := by
  obtain ⟨m, rfl⟩ : ∃ m, n = m + 2 := ⟨n - 2, by omega⟩
  have e1 := cl_len x s m
  have e2 := cl_len x s (m + 64)
  have c1 := code_len_a h1 (by omega)
  have c2 := code_len_b (m := m + 2 + 64) (by omega) (by omega)
  rw [pack_length, pack_length]
  unfold cbits
  rw [List.length_append, List.length_append, arCs_length, arCs_length]
  rw [show m + 64 + 2 = m + 2 + 64 by omega] at e2
  rw [e1, e2]
  omega
theorem compact_ints (f s : Int) (n : Nat) (h1 : 16 ≤ n) (h2 : n ≤ 79) :
    (pack (ints (arIs f s (n + 64)))).length ≤ (pack (ints (arIs f s n))).length + 10 := by
  obtain ⟨m, rfl⟩ : ∃ m, n = m + 2 := ⟨n - 2, by omega⟩
  have e1 := ci_len f s m
  have e2 := ci_len f s (m + 64)
  have c1 := code_len_a h1 (by omega)
  have c2 := code_len_b (m := m + 2 + 64) (by omega) (by omega)
  rw [pack_length, pack_length]
  unfold ints
  rw [List.length_append, List.length_append, arIs_length, arIs_length]
  rw [show m + 64 + 2 = m + 2 + 64 by omega] at e2
  rw [e1, e2]
  omega
theorem pack_pos {s : List Bool} (h : 0 < s.length) : 0 < (pack s).length := by rw [pack_length]; omega
theorem cbits_pos (l : List Clm) : 0 < (cbits l).length := by
  unfold cbits
  rw [List.length_append, code_len]
  omega
end Go.Proofs.YtjiiiimhegkklaaDoor
namespace Go.Proofs.YtjiiiimhegkklaaDoor
open Go.RowKit Pl

theorem xor1_ne (n : Int) : bits BinOp.xor IntKind.i64 n 1 ≠ n := by
  intro h
  have h1 : IntKind.i64.wrap ((BitVec.ofInt 64 n ^^^ BitVec.ofInt 64 1).toNat : Int) = n := h
  rw [IntKind.wrap_i64] at h1
  have hm : (BitVec.ofInt 64 n ^^^ BitVec.ofInt 64 1).toNat < 18446744073709551616 := (BitVec.ofInt 64 n ^^^ BitVec.ofInt 64 1).isLt
  have hx : (BitVec.ofInt 64 n).toNat = (n % 18446744073709551616).toNat := BitVec.toNat_ofInt n
  have he : (BitVec.ofInt 64 n ^^^ BitVec.ofInt 64 1) = BitVec.ofInt 64 n := by
    apply BitVec.eq_of_toNat_eq
    rw [hx]
    generalize (BitVec.ofInt 64 n ^^^ BitVec.ofInt 64 1).toNat = m at *
    omega
  generalize BitVec.ofInt 64 n = x at he
  have h2 := congrArg (x ^^^ ·) he
  simp only [← BitVec.xor_assoc, BitVec.xor_self, BitVec.zero_xor] at h2
  exact absurd h2 (by decide)
/- the last number of the k-th claim turned -/
def turnHi (cs : List Clm) (k : Nat) (u : Int) : List Clm := cs.set k (setC (cs.getD k zc) 3 u)
theorem flat_cons (c : Clm) (cs : List Clm) : flat (c :: cs) = cells4 c ++ flat cs := by unfold flat; rw [List.flatMap_cons]
theorem flat_turn (cs : List Clm) : ∀ k u, k < cs.length → flat (turnHi cs k u) = (flat cs).set (k * 4 + 3) (.int .i64 u) := by
  induction cs with
  | nil => intro k u h; simp at h
  | cons c cs ih =>
    intro k u h
    cases k with
    | zero => rfl
    | succ k =>
      have e : turnHi (c :: cs) (k + 1) u = c :: turnHi cs k u := by
        unfold turnHi
        rw [List.set_cons_succ, List.getD_cons_succ]
      rw [e, flat_cons, flat_cons, ih k u (by simpa using h)]
      rw [List.set_append_right _ _ (by simp [cells4]; omega)]
      congr 2
      simp [cells4]; omega
theorem turnHi_length (cs : List Clm) (k : Nat) (u : Int) : (turnHi cs k u).length = cs.length := by unfold turnHi; rw [List.length_set]
theorem turnHi_ne {cs : List Clm} {k : Nat} {u : Int} (hk : k < cs.length) (hu : u ≠ (cs.getD k zc).2.2.2) : cs ≠ turnHi cs k u := by
  intro h
  have h1 : cs[k]? = (turnHi cs k u)[k]? := by rw [← h]
  unfold turnHi at h1
  rw [List.getElem?_set, if_pos rfl, if_pos hk, List.getElem?_eq_getElem hk] at h1
  have h2 := Option.some.inj h1
  have h3 : cs.getD k zc = cs[k] := by rw [List.getD_eq_getElem?_getD, List.getElem?_eq_getElem hk]; rfl
  rw [h3, h2] at hu
  exact hu rfl
theorem MineC.turn {w : World} {base g n c : Nat} {cs : List Clm} (h : MineC w base (.slice (some ⟨g, 0, none⟩) n c) cs) {k : Nat} (hk : k < cs.length) (u : Int) :
    MineC (w.setCell ⟨g, k * 4 + 3, none⟩ (.int .i64 u)) base (.slice (some ⟨g, 0, none⟩) n c) (turnHi cs k u) := by
  rcases h.form with ⟨h0, _⟩ | ⟨g', cap, cur, hv, hb, hbox, h1, h2, h3, h4⟩
  · cases h0
  · injection hv with e1 e2 e3
    injection e1 with e1
    injection e1 with e1
    subst e1 e2 e3
    refine ⟨by rw [flat_length], .inr ⟨g, c, cur.setIfInBounds (k * 4 + 3) (.int .i64 u), by rw [turnHi_length], hb, hbox.set_ _ _, by rw [turnHi_length]; exact h1, h2, by simpa using h3, ?_⟩⟩
    rw [turnHi_length, flat_turn cs k u hk, Array.toList_setIfInBounds, List.take_set, h4]
/- without the first -/
theorem RdC.tail {w : World} {B b o n c : Nat} {cs : List Clm} (h : RdC w B (.slice (some ⟨b, o, none⟩) n c) cs) (hn : 0 < cs.length) : RdC w B (.slice (some ⟨b, o + 4, none⟩) (n - 1) (c - 1)) (cs.drop 1) := by
  obtain ⟨A, c', hv, hc, hx⟩ := h
  injection hv with e1 e2 e3
  subst e1 e2 e3
  obtain ⟨b', o', e, hb, hcell⟩ := hx hn
  injection e with e
  injection e with e1 e2
  subst e1 e2
  refine ⟨_, c - 1, by rw [List.length_drop], by rw [List.length_drop]; omega, fun _ => ⟨b, o + 4, rfl, hb, fun j u hu => ?_⟩⟩
  have := hcell (4 + j) u (by
    rcases cs with _ | ⟨c0, cs⟩
    · simp at hn
    · rw [flat_cons, List.getElem?_append_right (by simp [cells4])]
      simpa [cells4] using hu)
  rw [← Nat.add_assoc] at this
  exact this
theorem drop1_ne {cs : List Clm} (h : 0 < cs.length) : cs ≠ cs.drop 1 := fun e => by
  have := congrArg List.length e
  rw [List.length_drop] at this
  omega
/- encodings tell lists of claims apart -/
theorem encB_ne {cs ds : List Clm} (h : encE cs = 0) (hne : cs ≠ ds) : encB cs ≠ encB ds := by
  have hok : ∀ l : List Clm, encE l = 0 → Pl.decode (encB l) = some l := fun l hl => by
    rw [encB_ok hl]
    unfold encE at hl
    split at hl
    · cases hl
    · split at hl
      · rename_i h1 h2
        exact decode_enc l h2 (by omega)
      · cases hl
  intro e
  have h1 := hok cs h
  by_cases hd : encE ds = 0
  · have h2 := hok ds hd
    rw [← e, h1] at h2
    exact hne (Option.some.inj h2)
  · rw [encB_no hd] at e
    rw [e] at h1
    exact absurd h1 (by
      have : Pl.decode [] = none := by decide +kernel
      rw [this]; simp)
end Go.Proofs.YtjiiiimhegkklaaDoor
