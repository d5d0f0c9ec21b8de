/- The plain law of bits and bytes: packing, unpacking, the codes of numbers and how they parse. -/
namespace Go.Proofs.YtgkmfblmkfclbaaGreatDoor.Pl

/-! streams of bits, bytes -/
def bitv (b : Bool) (k : Nat) : Nat := if b then 2 ^ k else 0
def byteAt (s : List Bool) (j : Nat) : Nat :=
  bitv (s.getD (8 * j) false) 7 + bitv (s.getD (8 * j + 1) false) 6 + bitv (s.getD (8 * j + 2) false) 5 + bitv (s.getD (8 * j + 3) false) 4 +
  bitv (s.getD (8 * j + 4) false) 3 + bitv (s.getD (8 * j + 5) false) 2 + bitv (s.getD (8 * j + 6) false) 1 + bitv (s.getD (8 * j + 7) false) 0
def pack (s : List Bool) : List Nat := (List.range ((s.length + 7) / 8)).map (byteAt s)
def bitAt (bs : List Nat) (k : Nat) : Bool := (bs.getD (k / 8) 0).testBit (7 - k % 8)
def bitsOf (bs : List Nat) : List Bool := (List.range (8 * bs.length)).map (bitAt bs)
def Bytes (bs : List Nat) : Prop := ∀ x ∈ bs, x < 256

theorem pack_length (s : List Bool) : (pack s).length = (s.length + 7) / 8 := by simp [pack]
theorem bitsOf_length (bs : List Nat) : (bitsOf bs).length = 8 * bs.length := by simp [bitsOf]
theorem pack_getElem? (s : List Bool) (j : Nat) (h : j < (s.length + 7) / 8) : (pack s)[j]? = some (byteAt s j) := by
  simp [pack, h]
theorem bitv_le (b : Bool) (k : Nat) : bitv b k ≤ 2 ^ k := by
  cases b <;> simp [bitv]
theorem byteAt_lt (s : List Bool) (j : Nat) : byteAt s j < 256 := by
  unfold byteAt
  have := bitv_le (s.getD (8 * j) false) 7
  have := bitv_le (s.getD (8 * j + 1) false) 6
  have := bitv_le (s.getD (8 * j + 2) false) 5
  have := bitv_le (s.getD (8 * j + 3) false) 4
  have := bitv_le (s.getD (8 * j + 4) false) 3
  have := bitv_le (s.getD (8 * j + 5) false) 2
  have := bitv_le (s.getD (8 * j + 6) false) 1
  have := bitv_le (s.getD (8 * j + 7) false) 0
  omega
theorem pack_bytes (s : List Bool) : Bytes (pack s) := by
  intro x hx
  simp only [pack, List.mem_map] at hx
  obtain ⟨j, _, rfl⟩ := hx
  exact byteAt_lt s j

theorem byte_bits (b0 b1 b2 b3 b4 b5 b6 b7 : Bool) (i : Nat) (hi : i < 8) :
    (bitv b0 7 + bitv b1 6 + bitv b2 5 + bitv b3 4 + bitv b4 3 + bitv b5 2 + bitv b6 1 + bitv b7 0).testBit (7 - i) = [b0, b1, b2, b3, b4, b5, b6, b7].getD i false := by
  have : i = 0 ∨ i = 1 ∨ i = 2 ∨ i = 3 ∨ i = 4 ∨ i = 5 ∨ i = 6 ∨ i = 7 := by omega
  revert b0 b1 b2 b3 b4 b5 b6 b7
  rcases this with rfl | rfl | rfl | rfl | rfl | rfl | rfl | rfl <;> decide

theorem byteAt_testBit (s : List Bool) (j i : Nat) (hi : i < 8) : (byteAt s j).testBit (7 - i) = s.getD (8 * j + i) false := by
  unfold byteAt
  rw [byte_bits _ _ _ _ _ _ _ _ i hi]
  have : i = 0 ∨ i = 1 ∨ i = 2 ∨ i = 3 ∨ i = 4 ∨ i = 5 ∨ i = 6 ∨ i = 7 := by omega
  rcases this with rfl | rfl | rfl | rfl | rfl | rfl | rfl | rfl <;> rfl

theorem bitAt_pack (s : List Bool) (k : Nat) (h : k < 8 * ((s.length + 7) / 8)) : bitAt (pack s) k = s.getD k false := by
  unfold bitAt
  have hj : k / 8 < (s.length + 7) / 8 := by omega
  rw [List.getD_eq_getElem?_getD, pack_getElem? s _ hj, Option.getD_some, byteAt_testBit s _ _ (by omega)]
  congr 1; omega

/-- the zeros behind a stream -/
def pad (n : Nat) : List Bool := List.replicate (8 * ((n + 7) / 8) - n) false
theorem bitsOf_pack (s : List Bool) : bitsOf (pack s) = s ++ pad s.length := by
  apply List.ext_getElem?
  intro k
  by_cases h : k < 8 * ((s.length + 7) / 8)
  · have e1 : (bitsOf (pack s))[k]? = some (bitAt (pack s) k) := by
      simp [bitsOf, pack_length, h]
    rw [e1, bitAt_pack s k h]
    by_cases hk : k < s.length
    · rw [List.getElem?_append_left hk]
      simp [List.getD_eq_getElem?_getD, hk]
    · rw [List.getElem?_append_right (by omega)]
      simp only [pad, List.getElem?_replicate]
      rw [if_pos (by omega), List.getD_eq_getElem?_getD, List.getElem?_eq_none (by omega)]
      rfl
  · rw [List.getElem?_eq_none (by rw [bitsOf_length, pack_length]; omega), List.getElem?_eq_none]
    simp [pad]; omega

theorem nat_bits (x : Nat) (h : x < 256) : bitv (x.testBit 7) 7 + bitv (x.testBit 6) 6 + bitv (x.testBit 5) 5 + bitv (x.testBit 4) 4 + bitv (x.testBit 3) 3 + bitv (x.testBit 2) 2 + bitv (x.testBit 1) 1 + bitv (x.testBit 0) 0 = x := by
  revert h
  revert x
  decide +kernel

theorem pack_bitsOf (bs : List Nat) (h : Bytes bs) : pack (bitsOf bs) = bs := by
  apply List.ext_getElem?
  intro j
  by_cases hj : j < bs.length
  · rw [pack_getElem? _ _ (by rw [bitsOf_length]; omega), List.getElem?_eq_getElem hj]
    congr 1
    have hb : ∀ i, i < 8 → (bitsOf bs).getD (8 * j + i) false = bs[j].testBit (7 - i) := by
      intro i hi
      have : 8 * j + i < 8 * bs.length := by omega
      have e1 : (8 * j + i) / 8 = j := by omega
      have e2 : (8 * j + i) % 8 = i := by omega
      simp [bitsOf, List.getD_eq_getElem?_getD, this, bitAt, e1, e2, hj]
    unfold byteAt
    rw [show 8 * j = 8 * j + 0 from rfl, hb 0 (by omega), hb 1 (by omega), hb 2 (by omega), hb 3 (by omega), hb 4 (by omega), hb 5 (by omega), hb 6 (by omega), hb 7 (by omega)]
    exact nat_bits _ (h _ (List.getElem_mem hj))
  · rw [List.getElem?_eq_none (by rw [pack_length, bitsOf_length]; omega), List.getElem?_eq_none (by omega)]

theorem bitsOf_inj {a b : List Nat} (ha : Bytes a) (hb : Bytes b) (h : bitsOf a = bitsOf b) : a = b := by
  rw [← pack_bitsOf a ha, ← pack_bitsOf b hb, h]

/-- one bit more -/
theorem byteAt_snoc_other (s : List Bool) (b : Bool) (j : Nat) (hj : j ≠ s.length / 8) : byteAt (s ++ [b]) j = byteAt s j := by
  have e : ∀ i, i < 8 → (s ++ [b]).getD (8 * j + i) false = s.getD (8 * j + i) false := by
    intro i hi
    simp only [List.getD_eq_getElem?_getD]
    by_cases h : 8 * j + i < s.length
    · rw [List.getElem?_append_left h]
    · rw [List.getElem?_eq_none (by simp; omega), List.getElem?_eq_none (by omega)]
  unfold byteAt
  rw [show 8 * j = 8 * j + 0 from rfl, e 0 (by omega), e 1 (by omega), e 2 (by omega), e 3 (by omega), e 4 (by omega), e 5 (by omega), e 6 (by omega), e 7 (by omega)]
def byteF (f : Nat → Bool) : Nat := bitv (f 0) 7 + bitv (f 1) 6 + bitv (f 2) 5 + bitv (f 3) 4 + bitv (f 4) 3 + bitv (f 5) 2 + bitv (f 6) 1 + bitv (f 7) 0
theorem byteAt_eq (s : List Bool) (j : Nat) : byteAt s j = byteF fun i => s.getD (8 * j + i) false := rfl
theorem byteF_congr {f g : Nat → Bool} (h : ∀ i, i < 8 → f i = g i) : byteF f = byteF g := by
  unfold byteF
  rw [h 0 (by omega), h 1 (by omega), h 2 (by omega), h 3 (by omega), h 4 (by omega), h 5 (by omega), h 6 (by omega), h 7 (by omega)]
theorem byteF_set (f : Nat → Bool) (b : Bool) (m : Nat) (hm : m < 8) (h : f m = false) : byteF (fun i => if i = m then b else f i) = byteF f + bitv b (7 - m) := by
  have : m = 0 ∨ m = 1 ∨ m = 2 ∨ m = 3 ∨ m = 4 ∨ m = 5 ∨ m = 6 ∨ m = 7 := by omega
  rcases this with rfl | rfl | rfl | rfl | rfl | rfl | rfl | rfl <;> (simp [byteF, h, bitv] <;> omega)
theorem byteAt_snoc_same (s : List Bool) (b : Bool) : byteAt (s ++ [b]) (s.length / 8) = byteAt s (s.length / 8) + bitv b (7 - s.length % 8) := by
  rw [byteAt_eq, byteAt_eq, ← byteF_set _ b (s.length % 8) (by omega)]
  · apply byteF_congr
    intro i hi
    simp only [List.getD_eq_getElem?_getD]
    by_cases h : 8 * (s.length / 8) + i < s.length
    · rw [List.getElem?_append_left h, if_neg (by omega)]
    · by_cases h' : i = s.length % 8
      · have : 8 * (s.length / 8) + i = s.length := by omega
        rw [if_pos h', this]; simp
      · rw [if_neg h', List.getElem?_eq_none (by simp; omega), List.getElem?_eq_none (by omega)]
  · rw [List.getD_eq_getElem?_getD, List.getElem?_eq_none (by omega)]; rfl
theorem byteAt_far (s : List Bool) (j : Nat) (h : s.length ≤ 8 * j) : byteAt s j = 0 := by
  have e : ∀ i, s.getD (8 * j + i) false = false := by
    intro i
    rw [List.getD_eq_getElem?_getD, List.getElem?_eq_none (by omega)]; rfl
  rw [byteAt_eq, byteF_congr (g := fun _ => false) (fun i _ => e i)]; rfl
/-- a bit written where there is none yet: or is sum -/
theorem byteAt_or (s : List Bool) : byteAt s (s.length / 8) ||| 2 ^ (7 - s.length % 8) = byteAt s (s.length / 8) + 2 ^ (7 - s.length % 8) := by
  have h := byteAt_testBit s (s.length / 8) (s.length % 8) (by omega)
  rw [List.getD_eq_getElem?_getD, List.getElem?_eq_none (by omega)] at h
  have hl := byteAt_lt s (s.length / 8)
  generalize byteAt s (s.length / 8) = x at *
  have hm : s.length % 8 < 8 := by omega
  generalize s.length % 8 = m at *
  simp only [Option.getD_none] at h
  revert h
  have key : ∀ x : Fin 256, ∀ m : Fin 8, x.1.testBit (7 - m.1) = false → x.1 ||| 2 ^ (7 - m.1) = x.1 + 2 ^ (7 - m.1) := by decide +kernel
  exact fun h => key ⟨x, hl⟩ ⟨m, hm⟩ h
theorem pack_snoc_new (s : List Bool) (b : Bool) (h : s.length % 8 = 0) : pack (s ++ [b]) = pack s ++ [bitv b 7] := by
  have e : (s.length + 1 + 7) / 8 = (s.length + 7) / 8 + 1 := by omega
  have e2 : (s.length + 7) / 8 = s.length / 8 := by omega
  unfold pack
  rw [List.length_append, List.length_singleton, e, List.range_succ, List.map_append]
  congr 1
  · apply List.map_congr_left
    intro j hj
    rw [List.mem_range] at hj
    exact byteAt_snoc_other s b j (by omega)
  · simp only [List.map_cons, List.map_nil]
    rw [e2, byteAt_snoc_same, byteAt_far s _ (by omega), h]; simp
theorem pack_snoc_old (s : List Bool) (b : Bool) (h : s.length % 8 ≠ 0) : pack (s ++ [b]) = (pack s).set (s.length / 8) (byteAt s (s.length / 8) + bitv b (7 - s.length % 8)) := by
  have e : (s.length + 1 + 7) / 8 = (s.length + 7) / 8 := by omega
  apply List.ext_getElem?
  intro j
  by_cases hj : j < (s.length + 7) / 8
  · rw [pack_getElem? _ _ (by simp; omega)]
    rw [List.getElem?_set]
    by_cases hjj : s.length / 8 = j
    · subst hjj
      rw [if_pos rfl, if_pos (by rw [pack_length]; exact hj), byteAt_snoc_same]
    · rw [if_neg hjj, pack_getElem? _ _ hj, byteAt_snoc_other s b j (fun h => hjj h.symm)]
  · rw [List.getElem?_eq_none (by rw [pack_length]; simp; omega), List.getElem?_eq_none (by rw [List.length_set, pack_length]; omega)]

/-! codes of numbers -/
def I64 (n : Int) : Prop := -9223372036854775808 ≤ n ∧ n ≤ 9223372036854775807
def zig (n : Int) : Nat := if 0 ≤ n then (2 * n).toNat else (-2 * n - 1).toNat
def unzig (z : Nat) : Int := if z % 2 = 0 then (z / 2 : Nat) else -((z / 2 : Nat) : Int) - 1
def width (i : Nat) : Nat := if i = 0 then 0 else if i = 1 then 4 else if i = 2 then 8 else if i = 3 then 16 else if i = 4 then 32 else 64
def idx (z : Nat) : Nat := if z < 1 then 0 else if z < 16 then 1 else if z < 256 then 2 else if z < 65536 then 3 else if z < 4294967296 then 4 else 5
def bin (z k : Nat) : List Bool := (List.range k).map fun i => z.testBit (k - 1 - i)
def un (i : Nat) : List Bool := List.replicate i true ++ [false]
def code (n : Int) : List Bool := un (idx (zig n)) ++ bin (zig n) (width (idx (zig n)))

theorem zig_lt {n : Int} (h : I64 n) : zig n < 18446744073709551616 := by unfold zig; obtain ⟨h1, h2⟩ := h; split <;> omega
theorem unzig_zig (n : Int) : unzig (zig n) = n := by unfold unzig zig; split <;> split <;> omega
theorem zig_unzig (z : Nat) : zig (unzig z) = z := by unfold unzig zig; split <;> split <;> omega
theorem unzig_I64 {z : Nat} (h : z < 18446744073709551616) : I64 (unzig z) := by unfold unzig I64; split <;> omega
theorem idx_le (z : Nat) : idx z ≤ 5 := by unfold idx; repeat (split <;> try omega)
theorem lt_width {z : Nat} (h : z < 18446744073709551616) : z < 2 ^ width (idx z) := by
  unfold idx
  repeat' split
  all_goals simp [width] <;> omega
/-- what a canonical code's index says -/
theorem idx_iff {z i : Nat} (hi : i ≤ 5) (hz : z < 2 ^ width i) : idx z = i ↔ (i = 0 ∨ 2 ^ width (i - 1) ≤ z) := by
  have : i = 0 ∨ i = 1 ∨ i = 2 ∨ i = 3 ∨ i = 4 ∨ i = 5 := by omega
  rcases this with rfl | rfl | rfl | rfl | rfl | rfl <;> simp [width] at hz ⊢ <;> unfold idx <;> (repeat' split) <;> omega

theorem bin_length (z k : Nat) : (bin z k).length = k := by simp [bin]
theorem bin_succ (z k : Nat) : bin z (k + 1) = z.testBit k :: bin z k := by
  unfold bin
  rw [List.range_succ_eq_map, List.map_cons, List.map_map]
  congr 1
  apply List.map_congr_left
  intro i hi
  simp only [Function.comp, List.mem_range] at *
  congr 1; omega
def val (s : List Bool) : Nat := s.foldl (fun n b => 2 * n + b.toNat) 0
theorem val_aux (s : List Bool) (a : Nat) : s.foldl (fun n b => 2 * n + b.toNat) a = a * 2 ^ s.length + val s := by
  induction s generalizing a with
  | nil => simp [val]
  | cons b s ih =>
    unfold val
    rw [List.foldl_cons, List.foldl_cons, ih, ih (2 * 0 + b.toNat), List.length_cons, Nat.pow_succ, Nat.add_mul]
    have : 2 * a * 2 ^ s.length = a * (2 ^ s.length * 2) := by rw [Nat.mul_comm 2 a, Nat.mul_assoc, Nat.mul_comm 2]
    simp [this, Nat.add_assoc]
theorem val_cons (b : Bool) (s : List Bool) : val (b :: s) = b.toNat * 2 ^ s.length + val s := by
  show List.foldl _ (2 * 0 + b.toNat) s = _
  rw [val_aux]; simp
theorem val_lt (s : List Bool) : val s < 2 ^ s.length := by
  induction s with
  | nil => simp [val]
  | cons b s ih => rw [val_cons, List.length_cons, Nat.pow_succ]; cases b <;> simp <;> omega
theorem val_snoc (s : List Bool) (b : Bool) : val (s ++ [b]) = 2 * val s + b.toNat := by simp [val, List.foldl_append]
theorem val_bin (z k : Nat) : val (bin z k) = z % 2 ^ k := by
  induction k with
  | zero => simp [bin, val, Nat.mod_one]
  | succ k ih =>
    rw [bin_succ, val_cons, bin_length, ih, Nat.testBit_eq_decide_div_mod_eq, Nat.pow_succ, Nat.mod_mul]
    have : z / 2 ^ k % 2 = 0 ∨ z / 2 ^ k % 2 = 1 := by omega
    rcases this with h | h <;> simp [h, Nat.add_comm]
theorem bin_val (s : List Bool) : bin (val s) s.length = s := by
  induction s with
  | nil => simp [bin]
  | cons b s ih =>
    rw [List.length_cons, bin_succ]
    have hl := val_lt s
    have h1 : (val (b :: s)).testBit s.length = b := by
      rw [val_cons, Nat.testBit_eq_decide_div_mod_eq]
      cases b <;> simp [Nat.div_eq_of_lt hl]
      rw [Nat.add_div_left _ (Nat.two_pow_pos _), Nat.div_eq_of_lt hl]
    have h2 : bin (val (b :: s)) s.length = bin (val s) s.length := by
      unfold bin
      apply List.map_congr_left
      intro i hi
      rw [List.mem_range] at hi
      rw [val_cons]
      cases b
      · simp
      · simp only [Bool.toNat_true, Nat.one_mul]
        rw [Nat.testBit_two_pow_add_gt (by omega)]
    rw [h1, h2, ih]

/-- the number of ones ahead of the first zero, at most 'most' -/
def ones : Nat → List Bool → Option (Nat × List Bool)
  | _, [] => none
  | _, false :: t => some (0, t)
  | 0, true :: _ => none
  | most + 1, true :: t => (ones most t).map fun p => (p.1 + 1, p.2)
theorem ones_un (i most : Nat) (t : List Bool) (h : i ≤ most) : ones most (un i ++ t) = some (i, t) := by
  induction i generalizing most with
  | zero => cases most <;> rfl
  | succ i ih =>
    obtain ⟨m, rfl⟩ : ∃ m, most = m + 1 := ⟨most - 1, by omega⟩
    show ones (m + 1) (true :: (un i ++ t)) = _
    rw [ones, ih m (by omega)]; rfl
theorem un_ones {most : Nat} {s : List Bool} {i : Nat} {t : List Bool} (h : ones most s = some (i, t)) : s = un i ++ t ∧ i ≤ most := by
  induction s generalizing most i with
  | nil => cases most <;> simp [ones] at h
  | cons b s ih =>
    cases b
    · cases most <;> (simp [ones] at h; obtain ⟨rfl, rfl⟩ := h; simp [un])
    · cases most with
      | zero => simp [ones] at h
      | succ m =>
        simp only [ones, Option.map_eq_some_iff] at h
        obtain ⟨⟨j, u⟩, hj, he⟩ := h
        simp only [Prod.mk.injEq] at he
        obtain ⟨rfl, rfl⟩ := he
        obtain ⟨e, hle⟩ := ih hj
        exact ⟨by rw [e]; rfl, by omega⟩

def parse (s : List Bool) : Option (Int × List Bool) :=
  match ones 5 s with
  | none => none
  | some (i, t) =>
    if t.length < width i then none
    else if 0 < i ∧ val (t.take (width i)) < 2 ^ width (i - 1) then none
    else some (unzig (val (t.take (width i))), t.drop (width i))

theorem parse_code {n : Int} (h : I64 n) (t : List Bool) : parse (code n ++ t) = some (n, t) := by
  unfold parse code
  rw [List.append_assoc, ones_un _ _ _ (idx_le _)]
  simp only
  have hl : (bin (zig n) (width (idx (zig n)))).length = width (idx (zig n)) := bin_length _ _
  rw [if_neg (by rw [List.length_append, hl]; omega)]
  have ht : (bin (zig n) (width (idx (zig n))) ++ t).take (width (idx (zig n))) = bin (zig n) (width (idx (zig n))) := by
    rw [List.take_append_of_le_length (by omega), List.take_of_length_le (by omega)]
  have hd : (bin (zig n) (width (idx (zig n))) ++ t).drop (width (idx (zig n))) = t := by
    rw [List.drop_append_of_le_length (by omega), List.drop_of_length_le (by omega)]; rfl
  have hz := zig_lt h
  have hw := lt_width hz
  rw [ht, hd, val_bin, Nat.mod_eq_of_lt hw, unzig_zig]
  have := (idx_iff (idx_le (zig n)) hw).1 rfl
  rw [if_neg (by omega)]

theorem width_le (i : Nat) : width i ≤ 64 := by unfold width; repeat (split <;> try omega)
theorem code_parse {s : List Bool} {n : Int} {t : List Bool} (h : parse s = some (n, t)) : s = code n ++ t ∧ I64 n := by
  unfold parse at h
  split at h
  · simp at h
  · rename_i i u hu
    obtain ⟨e, hi⟩ := un_ones hu
    split at h
    · simp at h
    · rename_i hlen
      split at h
      · simp at h
      · rename_i hc
        simp only [Option.some.injEq, Prod.mk.injEq] at h
        obtain ⟨rfl, rfl⟩ := h
        have htl : (u.take (width i)).length = width i := by rw [List.length_take]; omega
        have hv := val_lt (u.take (width i))
        rw [htl] at hv
        have hidx : idx (val (u.take (width i))) = i := by
          rw [idx_iff hi hv]; omega
        refine ⟨?_, unzig_I64 (Nat.lt_of_lt_of_le hv ?_)⟩
        · unfold code
          rw [zig_unzig, hidx, e, List.append_assoc]
          congr 1
          conv => lhs; rw [← List.take_append_drop (width i) u]
          congr 1
          have := bin_val (u.take (width i))
          rw [htl] at this
          exact this.symm
        · have h2 := Nat.pow_le_pow_right (n := 2) (by omega) (width_le i)
          simpa using h2
theorem code_length (n : Int) : (code n).length = idx (zig n) + 1 + width (idx (zig n)) := by
  simp [code, un, bin_length]; omega
theorem code_pos (n : Int) : 0 < (code n).length := by rw [code_length]; omega
theorem code_len_le (n : Int) : (code n).length ≤ 70 := by
  rw [code_length]
  have := idx_le (zig n); have := width_le (idx (zig n)); omega
theorem parse_length {s : List Bool} {n : Int} {t : List Bool} (h : parse s = some (n, t)) : t.length < s.length := by
  have := (code_parse h).1
  have := code_pos n
  rw [‹s = _›, List.length_append]; omega
end Go.Proofs.YtgkmfblmkfclbaaGreatDoor.Pl
