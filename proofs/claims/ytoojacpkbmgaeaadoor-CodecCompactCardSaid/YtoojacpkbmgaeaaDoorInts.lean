/- The plain law of lists of numbers: encoding and decoding undo each other, and the reference reads the same. -/
import Derived.IntWalk
import Derived.Test.YtoojacpkbmgaeaaDoorPlain
namespace Go.Proofs.YtoojacpkbmgaeaaDoor.Pl
open Go.RowKit

theorem wrap_I64 (x : Int) : I64 (wrap64 x) := by unfold I64 wrap64; omega
theorem wrap_of {x : Int} (h : I64 x) : wrap64 x = x := by unfold I64 at h; unfold wrap64; omega

/- differences of differences -/
def seconds : Int → Int → List Int → List Int
  | _, _, [] => []
  | b, a, n :: l => wrap64 (n - 2 * a + b) :: seconds a n l
def codes (l : List Int) : List Bool := l.flatMap code
def ints (l : List Int) : List Bool := code l.length ++ codes (seconds 0 0 l)

/- the numbers ahead of place j: the last, and the one before -/
def p1 (l : List Int) (j : Nat) : Int := (0 :: l).getD j 0
def p2 (l : List Int) (j : Nat) : Int := (0 :: 0 :: l).getD j 0
theorem p1_zero (l : List Int) : p1 l 0 = 0 := rfl
theorem p2_zero (l : List Int) : p2 l 0 = 0 := rfl
theorem p1_succ (l : List Int) (j : Nat) : p1 l (j + 1) = l.getD j 0 := rfl
theorem p2_succ (l : List Int) (j : Nat) : p2 l (j + 1) = p1 l j := rfl
theorem seconds_length (b a : Int) (l : List Int) : (seconds b a l).length = l.length := by
  induction l generalizing b a with
  | nil => rfl
  | cons x l ih => simp [seconds, ih]
theorem seconds_getElem? (b a : Int) (l : List Int) (j : Nat) (hj : j < l.length) :
    (seconds b a l)[j]? = some (wrap64 (l.getD j 0 - 2 * (a :: l).getD j 0 + (b :: a :: l).getD j 0)) := by
  induction l generalizing b a j with
  | nil => simp at hj
  | cons x l ih =>
    cases j with
    | zero => rfl
    | succ j => exact ih a x j (by simpa using hj)
theorem seconds_take (l : List Int) (j : Nat) (hj : j < l.length) : (seconds 0 0 l).take (j + 1) = (seconds 0 0 l).take j ++ [wrap64 (l.getD j 0 - 2 * p1 l j + p2 l j)] := by
  rw [List.take_add_one, seconds_getElem? 0 0 l j hj]; rfl
theorem codes_snoc (l : List Int) (x : Int) : codes (l ++ [x]) = codes l ++ code x := by simp [codes]
theorem codes_len (l : List Int) : (codes l).length ≤ 70 * l.length := by
  induction l with
  | nil => simp [codes]
  | cons x l ih =>
    have := code_len_le x
    simp only [codes, List.flatMap_cons, List.length_append, List.length_cons] at *
    omega

def reads : Nat → Int → Int → List Bool → Option (List Int × List Bool)
  | 0, _, _, s => some ([], s)
  | k + 1, b, a, s =>
    match parse s with
    | none => none
    | some (d, t) => (reads k a (wrap64 (d + 2 * a - b)) t).map fun p => (wrap64 (d + 2 * a - b) :: p.1, p.2)
def padded (r : List Bool) : Prop := r.length < 8 ∧ ∀ b ∈ r, b = false
instance (r : List Bool) : Decidable (padded r) := by unfold padded; infer_instance
def finInts (N : Nat) (t : List Bool) : Option (List Int) :=
  match reads N 0 0 t with
  | none => none
  | some (l, r) => if padded r then some l else none
def readInts (bs : List Nat) : Option (List Int) :=
  match parse (bitsOf bs) with
  | none => none
  | some (n, t) => if n < 0 then none else finInts n.toNat t
def finRef (bs : List Nat) (N : Nat) (t : List Bool) : Option (List Int) :=
  match reads N 0 0 t with
  | none => none
  | some (l, _) => if pack (ints l) = bs then some l else none
def refReadInts (bs : List Nat) : Option (List Int) :=
  match parse (bitsOf bs) with
  | none => none
  | some (n, t) => if n < 0 ∨ (bitsOf bs).length < n then none else finRef bs n.toNat t

theorem reads_some {k : Nat} {b a : Int} {s : List Bool} {l : List Int} {r : List Bool} (h : reads k b a s = some (l, r)) :
    s = codes (seconds b a l) ++ r ∧ l.length = k ∧ k + r.length ≤ s.length ∧ ∀ x ∈ l, I64 x := by
  induction k generalizing b a s l r with
  | zero =>
    simp only [reads, Option.some.injEq, Prod.mk.injEq] at h
    obtain ⟨rfl, rfl⟩ := h
    simp [seconds, codes]
  | succ k ih =>
    simp only [reads] at h
    split at h
    · simp at h
    · rename_i d t hp
      simp only [Option.map_eq_some_iff] at h
      obtain ⟨⟨l', r'⟩, hr, he⟩ := h
      simp only [Prod.mk.injEq] at he
      obtain ⟨rfl, rfl⟩ := he
      obtain ⟨e1, e2, e3, e4⟩ := ih hr
      obtain ⟨hs, hd⟩ := code_parse hp
      have hl := parse_length hp
      have hw : wrap64 (wrap64 (d + 2 * a - b) - 2 * a + b) = d := by
        rw [show d = wrap64 d from (wrap_of hd).symm]; unfold wrap64; omega
      refine ⟨?_, by simp [e2], by omega, ?_⟩
      · rw [hs, e1]
        simp only [seconds, codes, List.flatMap_cons, hw, List.append_assoc]
      · intro x hx
        rcases List.mem_cons.1 hx with rfl | hx
        · exact wrap_I64 _
        · exact e4 x hx

theorem reads_ints (l : List Int) (b a : Int) (h : ∀ x ∈ l, I64 x) (r : List Bool) : reads l.length b a (codes (seconds b a l) ++ r) = some (l, r) := by
  induction l generalizing b a with
  | nil => simp [reads, seconds, codes]
  | cons x l ih =>
    simp only [List.length_cons, reads, seconds, codes, List.flatMap_cons, List.append_assoc]
    rw [parse_code (wrap_I64 _)]
    have hx := h x (by simp)
    have hw : wrap64 (wrap64 (x - 2 * a + b) + 2 * a - b) = x := by
      rw [show x = wrap64 x from (wrap_of hx).symm]; unfold wrap64; omega
    simp only [hw]
    have := ih a x (fun y hy => h y (by simp [hy]))
    unfold codes at this
    rw [this]; rfl

theorem padded_iff {s r : List Bool} {bs : List Nat} (hb : Bytes bs) (h : bitsOf bs = s ++ r) : padded r ↔ pack s = bs := by
  have hl : 8 * bs.length = s.length + r.length := by rw [← bitsOf_length, h, List.length_append]
  constructor
  · rintro ⟨h8, hz⟩
    apply bitsOf_inj (pack_bytes s) hb
    rw [bitsOf_pack, h]
    congr 1
    unfold pad
    have hn : 8 * ((s.length + 7) / 8) - s.length = r.length := by omega
    rw [hn]
    exact (List.eq_replicate_iff.2 ⟨rfl, hz⟩).symm
  · rintro rfl
    rw [bitsOf_pack] at h
    have := List.append_cancel_left h
    rw [← this]
    unfold pad padded
    refine ⟨by rw [List.length_replicate]; omega, fun b hb => List.eq_of_mem_replicate hb⟩

theorem readInts_eq_ref (bs : List Nat) (hb : Bytes bs) : readInts bs = refReadInts bs := by
  unfold readInts refReadInts
  cases hp : parse (bitsOf bs) with
  | none => rfl
  | some p =>
    obtain ⟨n, t⟩ := p
    simp only
    obtain ⟨hs, hn⟩ := code_parse hp
    have hlen := parse_length hp
    by_cases h0 : n < 0
    · rw [if_pos h0, if_pos (.inl h0)]
    · rw [if_neg h0]
      unfold finInts finRef
      cases hr : reads n.toNat 0 0 t with
      | none =>
        simp only
        split <;> rfl
      | some q =>
        obtain ⟨l, r⟩ := q
        obtain ⟨e1, e2, e3, e4⟩ := reads_some hr
        rw [if_neg (by omega)]
        simp only
        have hnl : n = (l.length : Int) := by omega
        have hi : bitsOf bs = ints l ++ r := by
          rw [hs, e1]; unfold ints; rw [hnl, List.append_assoc]
        have := padded_iff hb hi
        by_cases hq : padded r
        · rw [if_pos hq, if_pos (this.1 hq)]
        · rw [if_neg hq, if_neg (fun h => hq (this.2 h))]

theorem readInts_ints (l : List Int) (h : ∀ x ∈ l, I64 x) (hl : l.length ≤ 9223372036854775807) : readInts (pack (ints l)) = some l := by
  unfold readInts
  rw [bitsOf_pack, ints, List.append_assoc, parse_code (by unfold I64; omega)]
  simp only
  rw [if_neg (by omega), Int.toNat_natCast]
  unfold finInts
  rw [reads_ints l 0 0 h]
  simp only
  rw [if_pos]
  unfold padded pad
  exact ⟨by rw [List.length_replicate]; omega, fun b hb => List.eq_of_mem_replicate hb⟩
end Go.Proofs.YtoojacpkbmgaeaaDoor.Pl
