/- The plain law of lists of numbers: encoding and decoding undo each other, and the reference reads the same. codec.write: the code of a number. -/
import Derived.IntWalk
import Derived.Test.YtggnifejlheebaaDoorCodecEnvelopeP03
import Derived.Test.YtggnifejlheebaaDoorCodecEnvelopeP05
namespace Go.Proofs.YtggnifejlheebaaDoor.Pl
open Go.RowKit

theorem wrap_I64 (x : Int) : I64 (wrap64 x) := by unfold I64 wrap64; omega
theorem wrap_of {x : Int} (h : I64 x) : wrap64 x = x := by unfold I64 at h; unfold wrap64; omega

/- differences of differences -/
def seconds : Int → Int → List Int → List Int
  | _, _, [] => []
  | b, a, n :: l => wrap64 (n - 2 * a + b) :: seconds a n l
def codes (l : List Int) : List Bool := l.flatMap code
def ints (l : List Int) : List Bool := code l.length ++ codes (seconds 0 0 l)

/- the numbers ahead of place j: the last, and the one before -/
def p1 (l : List Int) (j : Nat) : Int := (0 :: l).getD j 0
def p2 (l : List Int) (j : Nat) : Int := (0 :: 0 :: l).getD j 0
theorem p1_zero (l : List Int) : p1 l 0 = 0 := rfl
theorem p2_zero (l : List Int) : p2 l 0 = 0 := rfl
theorem p1_succ (l : List Int) (j : Nat) : p1 l (j + 1) = l.getD j 0 := rfl
theorem p2_succ (l : List Int) (j : Nat) : p2 l (j + 1) = p1 l j := rfl
theorem seconds_length (b a : Int) (l : List Int) : (seconds b a l).length = l.length := by
  induction l generalizing b a with
  | nil => rfl
  | cons x l ih => simp [seconds, ih]
theorem seconds_getElem? (b a : Int) (l : List Int) (j : Nat) (hj : j < l.length) :
    (seconds b a l)[j]? = some (wrap64 (l.getD j 0 - 2 * (a :: l).getD j 0 + (b :: a :: l).getD j 0)) := by
  induction l generalizing b a j with
  | nil => simp at hj
  | cons x l ih =>
    cases j with
    | zero => rfl
    | succ j => exact ih a x j (by simpa using hj)
theorem seconds_take (l : List Int) (j : Nat) (hj : j < l.length) : (seconds 0 0 l).take (j + 1) = (seconds 0 0 l).take j ++ [wrap64 (l.getD j 0 - 2 * p1 l j + p2 l j)] := by
  rw [List.take_add_one, seconds_getElem? 0 0 l j hj]; rfl
theorem codes_snoc (l : List Int) (x : Int) : codes (l ++ [x]) = codes l ++ code x := by simp [codes]
theorem codes_len (l : List Int) : (codes l).length ≤ 70 * l.length := by
  induction l with
  | nil => simp [codes]
  | cons x l ih =>
    have := code_len_le x
    simp only [codes, List.flatMap_cons, List.length_append, List.length_cons] at *
    omega

def reads : Nat → Int → Int → List Bool → Option (List Int × List Bool)
  | 0, _, _, s => some ([], s)
  | k + 1, b, a, s =>
    match parse s with
    | none => none
    | some (d, t) => (reads k a (wrap64 (d + 2 * a - b)) t).map fun p => (wrap64 (d + 2 * a - b) :: p.1, p.2)
def padded (r : List Bool) : Prop := r.length < 8 ∧ ∀ b ∈ r, b = false
instance (r : List Bool) : Decidable (padded r) := by unfold padded; infer_instance
def finInts (N : Nat) (t : List Bool) : Option (List Int) :=
  match reads N 0 0 t with
  | none => none
  | some (l, r) => if padded r then some l else none
def readInts (bs : List Nat) : Option (List Int) :=
  match parse (bitsOf bs) with
  | none => none
  | some (n, t) => if n < 0 then none else finInts n.toNat t
def finRef (bs : List Nat) (N : Nat) (t : List Bool) : Option (List Int) :=
  match reads N 0 0 t with
  | none => none
  | some (l, _) => if pack (ints l) = bs then some l else none
def refReadInts (bs : List Nat) : Option (List Int) :=
  match parse (bitsOf bs) with
  | none => none
  | some (n, t) => if n < 0 ∨ (bitsOf bs).length < n then none else finRef bs n.toNat t

theorem reads_some {k : Nat} {b a : Int} {s : List Bool} {l : List Int} {r : List Bool} (h : reads k b a s = some (l, r)) :
    s = codes (seconds b a l) ++ r ∧ l.length = k ∧ k + r.length ≤ s.length ∧ ∀ x ∈ l, I64 x := by
  induction k generalizing b a s l r with
  | zero =>
    simp only [reads, Option.some.injEq, Prod.mk.injEq] at h
    obtain ⟨rfl, rfl⟩ := h
    simp [seconds, codes]
  | succ k ih =>
    simp only [reads] at h
    split at h
    · simp at h
    · rename_i d t hp
      simp only [Option.map_eq_some_iff] at h
      obtain ⟨⟨l', r'⟩, hr, he⟩ := h
      simp only [Prod.mk.injEq] at he
      obtain ⟨rfl, rfl⟩ := he
      obtain ⟨e1, e2, e3, e4⟩ := ih hr
      obtain ⟨hs, hd⟩ := code_parse hp
      have hl := parse_length hp
      have hw : wrap64 (wrap64 (d + 2 * a - b) - 2 * a + b) = d := by
        rw [show d = wrap64 d from (wrap_of hd).symm]; unfold wrap64; omega
      refine ⟨?_, by simp [e2], by omega, ?_⟩
      · rw [hs, e1]
        simp only [seconds, codes, List.flatMap_cons, hw, List.append_assoc]
      · intro x hx
        rcases List.mem_cons.1 hx with rfl | hx
        · exact wrap_I64 _
        · exact e4 x hx

theorem reads_ints (l : List Int) (b a : Int) (h : ∀ x ∈ l, I64 x) (r : List Bool) : reads l.length b a (codes (seconds b a l) ++ r) = some (l, r) := by
  induction l generalizing b a with
  | nil => simp [reads, seconds, codes]
  | cons x l ih =>
    simp only [List.length_cons, reads, seconds, codes, List.flatMap_cons, List.append_assoc]
    rw [parse_code (wrap_I64 _)]
    have hx := h x (by simp)
    have hw : wrap64 (wrap64 (x - 2 * a + b) + 2 * a - b) = x := by
      rw [show x = wrap64 x from (wrap_of hx).symm]; unfold wrap64; omega
    simp only [hw]
    have := ih a x (fun y hy => h y (by simp [hy]))
    unfold codes at this
    rw [this]; rfl

theorem padded_iff {s r : List Bool} {bs : List Nat} (hb : Bytes bs) (h : bitsOf bs = s ++ r) : padded r ↔ pack s = bs := by
  have hl : 8 * bs.length = s.length + r.length := by rw [← bitsOf_length, h, List.length_append]
  constructor
  · rintro ⟨h8, hz⟩
    apply bitsOf_inj (pack_bytes s) hb
    rw [bitsOf_pack, h]
    congr 1
    unfold pad
    have hn : 8 * ((s.length + 7) / 8) - s.length = r.length := by omega
    rw [hn]
    exact (List.eq_replicate_iff.2 ⟨rfl, hz⟩).symm
  · rintro rfl
    rw [bitsOf_pack] at h
    have := List.append_cancel_left h
    rw [← this]
    unfold pad padded
    refine ⟨by rw [List.length_replicate]; omega, fun b hb => List.eq_of_mem_replicate hb⟩

theorem readInts_eq_ref (bs : List Nat) (hb : Bytes bs) : readInts bs = refReadInts bs := by
  unfold readInts refReadInts
  cases hp : parse (bitsOf bs) with
  | none => rfl
  | some p =>
    obtain ⟨n, t⟩ := p
    simp only
    obtain ⟨hs, hn⟩ := code_parse hp
    have hlen := parse_length hp
    by_cases h0 : n < 0
    · rw [if_pos h0, if_pos (.inl h0)]
    · rw [if_neg h0]
      unfold finInts finRef
      cases hr : reads n.toNat 0 0 t with
      | none =>
        simp only
        split <;> rfl
      | some q =>
        obtain ⟨l, r⟩ := q
        obtain ⟨e1, e2, e3, e4⟩ := reads_some hr
        rw [if_neg (by omega)]
        simp only
        have hnl : n = (l.length : Int) := by omega
        have hi : bitsOf bs = ints l ++ r := by
          rw [hs, e1]; unfold ints; rw [hnl, List.append_assoc]
        have := padded_iff hb hi
        by_cases hq : padded r
        · rw [if_pos hq, if_pos (this.1 hq)]
        · rw [if_neg hq, if_neg (fun h => hq (this.2 h))]

theorem readInts_ints (l : List Int) (h : ∀ x ∈ l, I64 x) (hl : l.length ≤ 9223372036854775807) : readInts (pack (ints l)) = some l := by
  unfold readInts
  rw [bitsOf_pack, ints, List.append_assoc, parse_code (by unfold I64; omega)]
  simp only
  rw [if_neg (by omega), Int.toNat_natCast]
  unfold finInts
  rw [reads_ints l 0 0 h]
  simp only
  rw [if_pos]
  unfold padded pad
  exact ⟨by rw [List.length_replicate]; omega, fun b hb => List.eq_of_mem_replicate hb⟩
end Go.Proofs.YtggnifejlheebaaDoor.Pl
namespace Go.Proofs.YtggnifejlheebaaDoor
open Go.RowKit Pl

/- the table of widths, below block B -/
def Tab (w : World) (B : Nat) : Prop := 0 < B ∧ ∀ i, i < 6 → w.cell? ⟨0, i, none⟩ = some (.int .i64 (width i : Nat))
theorem Tab.keep {w w' : World} {B : Nat} {S : Nat → Prop} (h : Tab w B) (hk : Keeps S w w') (hs : ∀ i, i < B → ¬ S i) : Tab w' B :=
  ⟨h.1, fun i hi => (World.cell?_of_block (hk.block 0 (World.block_lt_of_cell? w ⟨0, i, none⟩ (h.2 i hi)) (hs _ h.1))).trans (h.2 i hi)⟩
theorem Tab.grew {w w' : World} {B : Nat} (h : Tab w B) (hk : Grew w w') : Tab w' B := h.keep hk fun _ _ e => e
theorem Tab.keepW {w w' : World} {B base g : Nat} {v : Value} {s : List Bool} (h : Tab w B) (hk : KeepsW g v w w') (hb : BW w base g v s) (hg : base ≤ g) (hB : B ≤ base) : Tab w' B :=
  h.keep hk fun i hi e => by
    rcases e with rfl | e
    · omega
    · have := (hb.2.lt i e).1; omega

theorem fits_yes (z k : Nat) (w : World) (_ : z < 18446744073709551616) (hk : k ≤ 64) (h : z < 2 ^ k) :
    Calls Tryd.prog 39 #[.int .u64 (z : Nat), .int .i64 (k : Nat)] w fun e w' => e = .returned (.bool true) ∧ w = w' := by
  have hd : z / 2 ^ k = 0 := Nat.div_eq_of_lt h
  by_cases h64 : 64 ≤ k
  · have ht : decide ((64 : Int) ≤ (k : Int)) = true := by simp; omega
    clear hd h
    go_enter Tryd.func39, Tryd.ntmps39
    go_wp2
    go_ret
    exact ⟨rfl, rfl⟩
  · have ht : decide ((64 : Int) ≤ (k : Int)) = false := by simp; omega
    have hq : ((z : Int) / 2 ^ k == 0) = true := by
      rw [beq_iff_eq]
      have : ((z : Int) / 2 ^ k) = ((z / 2 ^ k : Nat) : Int) := by rw [Int.natCast_ediv, Int.natCast_pow]; rfl
      rw [this, hd]; rfl
    clear hd h
    go_enter Tryd.func39, Tryd.ntmps39
    go_wp2
    go_ret
    exact ⟨rfl, rfl⟩
theorem fits_no (z k : Nat) (w : World) (_ : z < 18446744073709551616) (hk : k < 64) (h : ¬ z < 2 ^ k) :
    Calls Tryd.prog 39 #[.int .u64 (z : Nat), .int .i64 (k : Nat)] w fun e w' => e = .returned (.bool false) ∧ w = w' := by
  have ht : decide ((64 : Int) ≤ (k : Int)) = false := by simp; omega
  have hq : ((z : Int) / 2 ^ k == 0) = false := by
    rw [beq_eq_false_iff_ne]
    have : ((z : Int) / 2 ^ k) = ((z / 2 ^ k : Nat) : Int) := by rw [Int.natCast_ediv, Int.natCast_pow]; rfl
    rw [this]
    have : 0 < z / 2 ^ k := Nat.div_pos (by omega) (Nat.two_pow_pos _)
    omega
  clear h
  go_enter Tryd.func39, Tryd.ntmps39
  go_wp2
  go_ret
  exact ⟨rfl, rfl⟩

theorem xor_ones (a : Nat) (ha : a < 18446744073709551616) : a ^^^ 18446744073709551615 = 18446744073709551615 - a := by
  have h1 : (BitVec.ofNat 64 a ^^^ BitVec.allOnes 64).toNat = a ^^^ 18446744073709551615 := by
    rw [BitVec.toNat_xor, BitVec.toNat_ofNat, BitVec.toNat_allOnes, Nat.mod_eq_of_lt (by omega)]
  have h2 : (BitVec.ofNat 64 a ^^^ BitVec.allOnes 64).toNat = 18446744073709551615 - a := by
    rw [BitVec.xor_allOnes, BitVec.toNat_not, BitVec.toNat_ofNat, Nat.mod_eq_of_lt (by omega)]
  exact h1.symm.trans h2
theorem zig_bits (n : Int) (h : I64 n) : bits BinOp.xor IntKind.u64 (IntKind.u64.wrap (IntKind.u64.wrap n * 2)) (IntKind.u64.wrap (n / 9223372036854775808)) = ((zig n : Nat) : Int) := by
  obtain ⟨h1, h2⟩ := h
  simp only [IntKind.wrap_u64]
  by_cases h0 : 0 ≤ n
  · have e1 : (n % 18446744073709551616 * 2) % 18446744073709551616 = (((2 * n).toNat : Nat) : Int) := by omega
    have e2 : n / 9223372036854775808 % 18446744073709551616 = ((0 : Nat) : Int) := by omega
    rw [e1, e2, u64_xor_nat _ _ (by omega) (by omega), Nat.xor_zero]
    unfold zig; rw [if_pos h0]
  · have e1 : (n % 18446744073709551616 * 2) % 18446744073709551616 = (((2 * n + 18446744073709551616).toNat : Nat) : Int) := by omega
    have e2 : n / 9223372036854775808 % 18446744073709551616 = ((18446744073709551615 : Nat) : Int) := by omega
    rw [e1, e2, u64_xor_nat _ _ (by omega) (by omega), xor_ones _ (by omega)]
    unfold zig; rw [if_neg h0]; omega
set_option maxHeartbeats 800000 in
theorem write_any (g base : Nat) (v : Value) (s : List Bool) (n : Int) (w : World) (h : BW w base g v s) (hg : base ≤ g) (ht : Tab w base) (hs : s.length < 1099511500000) (hb : base ≤ w.heap.size) (hn : I64 n) :
    Calls Tryd.prog 18 #[.pointer (some ⟨g, 0, none⟩), .int .i64 n] w fun e w' => e = .returned (.tuple #[]) ∧
      ∃ v', BW w' base g v' (s ++ code n) ∧ KeepsW g v w w' ∧ Moved w v v' := by
  have hzb := zig_bits n hn
  have hz := zig_lt hn
  have hil := idx_le (zig n)
  obtain ⟨hn1, hn2⟩ := hn
  unfold code
  have HZ := Lib.hid hz
  clear hz
  generalize zig n = z at *
  have hj5 : ∀ j, j ≤ 5 → (z < 2 ^ width j ↔ idx z ≤ j) := by
    intro j hj
    have hz := HZ.out
    have : j = 0 ∨ j = 1 ∨ j = 2 ∨ j = 3 ∨ j = 4 ∨ j = 5 := by omega
    rcases this with rfl | rfl | rfl | rfl | rfl | rfl <;> simp [width] <;> unfold idx <;> (repeat' split) <;> omega
  have HJ := Lib.hid hj5
  have HT := Lib.hid ht
  clear hj5 ht
  go_enter Tryd.func18, Tryd.ntmps18
  go_wp2_with fail
  go_loop [5] (fun i => ∃ j : Nat, j ≤ idx z ∧ i = .int .i64 j) (fun i => idx z - (intOf i).toNat)
  case atStart => exact ⟨0, by omega, rfl⟩
  case round =>
    obtain ⟨j, hj, rfl⟩ := hrel
    have hc := HT.out.2 j (by omega)
    have hw64 := width_le j
    by_cases hlt : j < idx z
    · have hno : ¬ z < 2 ^ width j := by rw [HJ.out j (by omega)]; omega
      have hw : width j < 64 := by
        rcases Nat.lt_or_ge (width j) 64 with h | h
        · exact h
        · exfalso
          have : width j = 64 := by omega
          rw [this] at hno
          have := HZ.out
          omega
      have HF := Lib.hid (fits_no z (width j) w HZ.out hw hno)
      clear hno
      go_wp2_with (go_at_call 39; refine HF.out.mono ?_; rintro e w' ⟨rfl, rfl⟩)
      go_round
      case rel => exact ⟨j + 1, by omega, by go_num⟩
      case measure => simp [intOf]; omega
    · obtain rfl : j = idx z := by omega
      have hyes : z < 2 ^ width (idx z) := by rw [HJ.out _ hil]; omega
      have HF := Lib.hid (fits_yes z (width (idx z)) w HZ.out hw64 hyes)
      clear hyes
      go_wp2_with (go_at_call 39; refine HF.out.mono ?_; rintro e w' ⟨rfl, rfl⟩)
      refine (wunary_any g base v s (idx z) w h (by omega) hb (by omega)).mono ?_
      rintro e w2 ⟨rfl, v2, k1, k2, k3⟩
      have hc2 := (HT.out.keepW k2 h hg (Nat.le_refl _)).2 (idx z) (by omega)
      have hb2 : base ≤ w2.heap.size := Nat.le_trans hb k2.size
      have hl2 : (s ++ un (idx z)).length < 1099511627000 := by simp [un]; omega
      have HW := Lib.hid (wbits_any g base v2 _ z (width (idx z)) w2 k1 hl2 hb2 HZ.out hw64)
      clear hl2 hb2
      go_wp2_with (go_at_call 41; refine HW.out.mono ?_; rintro e w3 ⟨rfl, v3, m1, m2, m3⟩)
      go_end0
      exact ⟨rfl, v3, by rw [← List.append_assoc]; exact m1, k2.trans k3 m2, k3.trans k2.size m3⟩
end Go.Proofs.YtggnifejlheebaaDoor
