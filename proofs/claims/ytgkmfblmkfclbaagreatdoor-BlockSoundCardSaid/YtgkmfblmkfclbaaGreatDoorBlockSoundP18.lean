/- The plain law of decoding, step by step: what is left to read. Reading varints, signed numbers and strings of bytes, and decoding a block: plain. The reader of package wire: its state; one byte. -/
import Derived.Test.YtgkmfblmkfclbaaGreatDoorBlockSoundP10
import Derived.Test.YtgkmfblmkfclbaaGreatDoorBlockSoundP17
import Derived.Test.YtgkmfblmkfclbaaGreatDoorBlockSoundP08
namespace Go.Proofs.YtgkmfblmkfclbaaGreatDoor
open Go.RowKit Pl

def readK : Nat → List Bool → Option (List Int × List Bool)
  | 0, s => some ([], s)
  | k + 1, s =>
    match parse s with
    | none => none
    | some (d, t) => (readK k t).map fun p => (d :: p.1, p.2)
theorem parse4_readK (s : List Bool) : parse4 s = (readK 4 s).map fun p => ((p.1.getD 0 0, p.1.getD 1 0, p.1.getD 2 0, p.1.getD 3 0), p.2) := by
  unfold parse4
  simp only [readK]
  cases parse s with
  | none => rfl
  | some p =>
    obtain ⟨d0, s0⟩ := p
    simp only
    cases parse s0 with
    | none => rfl
    | some p =>
      obtain ⟨d1, s1⟩ := p
      simp only
      cases parse s1 with
      | none => rfl
      | some p =>
        obtain ⟨d2, s2⟩ := p
        simp only
        cases parse s2 with
        | none => rfl
        | some p => rfl
/- so many of the four numbers are read: they stand in c -/
def P4 (s0 : List Bool) (j : Nat) (c : Clm) (s : List Bool) : Prop := j ≤ 4 ∧ readK 4 s0 = (readK (4 - j) s).map fun p => ((l4 c).take j ++ p.1, p.2)
def setC (c : Clm) (j : Nat) (d : Int) : Clm :=
  match j with
  | 0 => (d, c.2.1, c.2.2.1, c.2.2.2)
  | 1 => (c.1, d, c.2.2.1, c.2.2.2)
  | 2 => (c.1, c.2.1, d, c.2.2.2)
  | _ => (c.1, c.2.1, c.2.2.1, d)
theorem P4.start (s : List Bool) (c : Clm) : P4 s 0 c s := ⟨by omega, by cases readK 4 s <;> simp⟩
theorem P4.step {s0 s t : List Bool} {j : Nat} {c : Clm} {d : Int} (h : P4 s0 j c s) (hj : j < 4) (hp : parse s = some (d, t)) : P4 s0 (j + 1) (setC c j d) t := by
  refine ⟨by omega, ?_⟩
  rw [h.2]
  obtain ⟨m, hm⟩ : ∃ m, 4 - j = m + 1 := ⟨4 - j - 1, by omega⟩
  rw [hm, show 4 - (j + 1) = m by omega]
  simp only [readK, hp]
  have hl : (l4 (setC c j d)).take (j + 1) = (l4 c).take j ++ [d] := by
    have : j = 0 ∨ j = 1 ∨ j = 2 ∨ j = 3 := by omega
    rcases this with rfl | rfl | rfl | rfl <;> rfl
  rw [hl]
  cases readK m t <;> simp
theorem P4.fail {s0 s : List Bool} {j : Nat} {c : Clm} (h : P4 s0 j c s) (hj : j < 4) (hp : parse s = none) : parse4 s0 = none := by
  rw [parse4_readK, h.2]
  obtain ⟨m, hm⟩ : ∃ m, 4 - j = m + 1 := ⟨4 - j - 1, by omega⟩
  rw [hm]
  simp only [readK, hp]
  rfl
theorem P4.done {s0 s : List Bool} {c : Clm} (h : P4 s0 4 c s) : parse4 s0 = some (c, s) := by
  rw [parse4_readK, h.2]
  simp [readK, l4]

/- what is left of the reading of claims -/
def RestC (N : Nat) (t0 : List Bool) (j : Nat) (be la : Clm) (s : List Bool) (acc : List Clm) : Prop :=
  j ≤ N ∧ dreads N zc zc t0 = (dreads (N - j) be la s).map fun p => (acc ++ p.1, p.2)
theorem RestC.start (N : Nat) (t0 : List Bool) : RestC N t0 0 zc zc t0 [] := ⟨by omega, by cases dreads N zc zc t0 <;> simp⟩
theorem RestC.step {N j : Nat} {t0 s t : List Bool} {be la d : Clm} {acc : List Clm} (h : RestC N t0 j be la s acc) (hj : j < N) (hp : parse4 s = some (d, t)) (ho : okC (nextC be la d)) : RestC N t0 (j + 1) la (nextC be la d) t (acc ++ [nextC be la d]) := by
  refine ⟨by omega, ?_⟩
  rw [h.2]
  obtain ⟨m, hm⟩ : ∃ m, N - j = m + 1 := ⟨N - j - 1, by omega⟩
  rw [hm, show N - (j + 1) = m by omega]
  simp only [dreads, hp, if_pos ho]
  cases dreads m la (nextC be la d) t <;> simp
theorem RestC.fail {N j : Nat} {t0 s : List Bool} {be la : Clm} {acc : List Clm} (h : RestC N t0 j be la s acc) (hj : j < N) (hp : parse4 s = none) : dreads N zc zc t0 = none := by
  rw [h.2]
  obtain ⟨m, hm⟩ : ∃ m, N - j = m + 1 := ⟨N - j - 1, by omega⟩
  rw [hm]
  simp only [dreads, hp]
  rfl
theorem RestC.out {N j : Nat} {t0 s t : List Bool} {be la d : Clm} {acc : List Clm} (h : RestC N t0 j be la s acc) (hj : j < N) (hp : parse4 s = some (d, t)) (ho : ¬ okC (nextC be la d)) : dreads N zc zc t0 = none := by
  rw [h.2]
  obtain ⟨m, hm⟩ : ∃ m, N - j = m + 1 := ⟨N - j - 1, by omega⟩
  rw [hm]
  simp only [dreads, hp, if_neg ho]
  rfl
theorem RestC.done {N : Nat} {t0 s : List Bool} {be la : Clm} {acc : List Clm} (h : RestC N t0 N be la s acc) : dreads N zc zc t0 = some (acc, s) := by
  rw [h.2, Nat.sub_self]; simp [dreads]
/- the same, of the reference: it looks at the range only behind the last -/
def RestR (N : Nat) (t0 : List Bool) (j : Nat) (be la : Clm) (s : List Bool) (acc : List Clm) : Prop :=
  j ≤ N ∧ creads N zc zc t0 = (creads (N - j) be la s).map fun p => (acc ++ p.1, p.2)
theorem RestR.start (N : Nat) (t0 : List Bool) : RestR N t0 0 zc zc t0 [] := ⟨by omega, by cases creads N zc zc t0 <;> simp⟩
theorem RestR.step {N j : Nat} {t0 s t : List Bool} {be la d : Clm} {acc : List Clm} (h : RestR N t0 j be la s acc) (hj : j < N) (hp : parse4 s = some (d, t)) : RestR N t0 (j + 1) la (nextC be la d) t (acc ++ [nextC be la d]) := by
  refine ⟨by omega, ?_⟩
  rw [h.2]
  obtain ⟨m, hm⟩ : ∃ m, N - j = m + 1 := ⟨N - j - 1, by omega⟩
  rw [hm, show N - (j + 1) = m by omega]
  simp only [creads, hp]
  cases creads m la (nextC be la d) t <;> simp
theorem RestR.fail {N j : Nat} {t0 s : List Bool} {be la : Clm} {acc : List Clm} (h : RestR N t0 j be la s acc) (hj : j < N) (hp : parse4 s = none) : creads N zc zc t0 = none := by
  rw [h.2]
  obtain ⟨m, hm⟩ : ∃ m, N - j = m + 1 := ⟨N - j - 1, by omega⟩
  rw [hm]
  simp only [creads, hp]
  rfl
theorem RestR.done {N : Nat} {t0 s : List Bool} {be la : Clm} {acc : List Clm} (h : RestR N t0 N be la s acc) : creads N zc zc t0 = some (acc, s) := by
  rw [h.2, Nat.sub_self]; simp [creads]

/- the reference's differences -/
def diffs : Int → List Int → List Int
  | _, [] => []
  | a, x :: l => wrap64 (x - a) :: diffs x l
theorem diffs_length (a : Int) (l : List Int) : (diffs a l).length = l.length := by
  induction l generalizing a with
  | nil => rfl
  | cons x l ih => simp [diffs, ih]
theorem diffs_getD (a : Int) (l : List Int) (j : Nat) (hj : j < l.length) : (diffs a l).getD j 0 = wrap64 (l.getD j 0 - (a :: l).getD j 0) := by
  induction l generalizing a j with
  | nil => simp at hj
  | cons x l ih =>
    cases j with
    | zero => rfl
    | succ j => simp only [diffs, List.getD_cons_succ]; exact ih x j (by simpa using hj)
theorem diffs_take (a : Int) (l : List Int) (j : Nat) (hj : j < l.length) : (diffs a l).take (j + 1) = (diffs a l).take j ++ [wrap64 (l.getD j 0 - (a :: l).getD j 0)] := by
  rw [List.take_add_one, ← diffs_getD a l j hj]
  have : j < (diffs a l).length := by rw [diffs_length]; exact hj
  simp [List.getElem?_eq_getElem this, List.getD_eq_getElem?_getD]
theorem seconds_getD (b a : Int) (l : List Int) (j : Nat) (hj : j < l.length) : (seconds b a l).getD j 0 = wrap64 (l.getD j 0 - 2 * (a :: l).getD j 0 + (b :: a :: l).getD j 0) := by
  induction l generalizing b a j with
  | nil => simp at hj
  | cons x l ih =>
    cases j with
    | zero => rfl
    | succ j => simp only [seconds, List.getD_cons_succ]; exact ih a x j (by simpa using hj)
theorem diffs_I64 (a : Int) (l : List Int) : ∀ x ∈ diffs a l, I64 x := by
  induction l generalizing a with
  | nil => intro x hx; simp [diffs] at hx
  | cons y l ih =>
    intro x hx
    simp only [diffs, List.mem_cons] at hx
    rcases hx with rfl | hx
    · exact wrap_I64 _
    · exact ih _ x hx
/- the four lists of the reference -/
def frs (cs : List Clm) : List Int := cs.map fun c => c.1
def les (cs : List Clm) : List Int := cs.map fun c => wrap64 (c.2.1 - c.1)
def los (cs : List Clm) : List Int := cs.map fun c => c.2.2.1
def wis (cs : List Clm) : List Int := cs.map fun c => wrap64 (c.2.2.2 - c.2.2.1)
theorem getD_map0 (f : Clm → Int) (hf : f zc = 0) (cs : List Clm) (j : Nat) : (cs.map f).getD j 0 = f (cs.getD j zc) := by
  rw [List.getD_eq_getElem?_getD, List.getD_eq_getElem?_getD, List.getElem?_map]
  cases cs[j]? with
  | none => simp [hf]
  | some c => rfl
theorem getD_map1 (f : Clm → Int) (hf : f zc = 0) (cs : List Clm) (j : Nat) : (0 :: cs.map f).getD j 0 = f (q1 cs j) := by
  unfold q1
  cases j with
  | zero => exact hf.symm
  | succ j => simp only [List.getD_cons_succ]; exact getD_map0 f hf cs j
theorem getD_map2 (f : Clm → Int) (hf : f zc = 0) (cs : List Clm) (j : Nat) : (0 :: 0 :: cs.map f).getD j 0 = f (q2 cs j) := by
  unfold q2
  cases j with
  | zero => exact hf.symm
  | succ j => simp only [List.getD_cons_succ]; exact getD_map1 f hf cs j
theorem ref_c4 (cs : List Clm) (j : Nat) (hj : j < cs.length) :
    (seconds 0 0 (frs cs)).getD j 0 = n0 (q2 cs j) (q1 cs j) (cs.getD j zc) ∧ (diffs 0 (les cs)).getD j 0 = n1 (q1 cs j) (cs.getD j zc) ∧
    (diffs 0 (los cs)).getD j 0 = n2 (q1 cs j) (cs.getD j zc) ∧ (diffs 0 (wis cs)).getD j 0 = n3 (q1 cs j) (cs.getD j zc) := by
  unfold frs les los wis
  have w0 : wrap64 (0 - 0) = 0 := by unfold wrap64; omega
  rw [seconds_getD _ _ _ _ (by simpa using hj), diffs_getD _ _ _ (by simpa using hj), diffs_getD _ _ _ (by simpa using hj), diffs_getD _ _ _ (by simpa using hj)]
  rw [getD_map0 _ rfl, getD_map1 _ rfl, getD_map2 _ rfl, getD_map0 _ w0, getD_map1 _ w0, getD_map0 _ rfl, getD_map1 _ rfl, getD_map0 _ w0, getD_map1 _ w0]
  unfold n0 n1 n2 n3
  refine ⟨rfl, ?_, rfl, ?_⟩
  · unfold wrap64; omega
  · unfold wrap64; omega
end Go.Proofs.YtgkmfblmkfclbaaGreatDoor
namespace Go.Proofs.YtgkmfblmkfclbaaGreatDoor.Pl

/- a varint from its i-th byte on, with a so far: the error, or the number and the rest -/
def uP : Nat → Nat → List Nat → Sum Int (Nat × List Nat)
  | _, _, [] => .inl 3
  | i, a, c :: t => if (i = 9 ∧ 1 < c) ∨ (0 < i ∧ c = 0) then .inl 2 else if c < 128 then .inr (a + c % 128 * 128 ^ i, t) else uP (i + 1) (a + c % 128 * 128 ^ i) t
theorem uP_nil (i a : Nat) : uP i a [] = .inl 3 := rfl
theorem uP_bad {i a c : Nat} {t : List Nat} (h : (i = 9 ∧ 1 < c) ∨ (0 < i ∧ c = 0)) : uP i a (c :: t) = .inl 2 := by rw [uP, if_pos h]
theorem uP_end {i a c : Nat} {t : List Nat} (h : ¬ ((i = 9 ∧ 1 < c) ∨ (0 < i ∧ c = 0))) (hc : c < 128) : uP i a (c :: t) = .inr (a + c % 128 * 128 ^ i, t) := by rw [uP, if_neg h, if_pos hc]
theorem uP_on {i a c : Nat} {t : List Nat} (h : ¬ ((i = 9 ∧ 1 < c) ∨ (0 < i ∧ c = 0))) (hc : ¬ c < 128) : uP i a (c :: t) = uP (i + 1) (a + c % 128 * 128 ^ i) t := by rw [uP, if_neg h, if_neg hc]
/- what is read is below 2^64, and no longer than what was there -/
theorem uP_lt : ∀ (s : List Nat) (i a n : Nat) (t : List Nat), i ≤ 9 → a < 128 ^ i → uP i a s = .inr (n, t) → n < 18446744073709551616 := by
  intro s
  induction s with
  | nil => intro i a n t _ _ h; cases h
  | cons c s ih =>
    intro i a n t hi ha h
    by_cases hb : (i = 9 ∧ 1 < c) ∨ (0 < i ∧ c = 0)
    · rw [uP_bad hb] at h; cases h
    · have hm : a + c % 128 * 128 ^ i < 128 ^ (i + 1) := by
        have : c % 128 ≤ 127 := by omega
        have := Nat.mul_le_mul_right (128 ^ i) this
        rw [Nat.pow_succ]; omega
      by_cases hc : c < 128
      · rw [uP_end hb hc] at h
        injection h with h
        injection h with h1 _
        subst h1
        by_cases h9 : i = 9
        · subst h9
          have e : (128 : Nat) ^ 9 = 9223372036854775808 := by decide
          rw [e] at ha ⊢
          have : c % 128 ≤ 1 := by omega
          omega
        · have : 128 ^ (i + 1) ≤ 128 ^ 9 := Nat.pow_le_pow_right (by omega) (by omega)
          have e : (128 : Nat) ^ 9 = 9223372036854775808 := by decide
          omega
      · rw [uP_on hb hc] at h
        exact ih (i + 1) _ n t (by omega) hm h
theorem uP_suffix : ∀ (s : List Nat) (i a n : Nat) (t : List Nat), uP i a s = .inr (n, t) → ∃ k, k ≤ s.length ∧ t = s.drop k := by
  intro s
  induction s with
  | nil => intro i a n t h; cases h
  | cons c s ih =>
    intro i a n t h
    by_cases hb : (i = 9 ∧ 1 < c) ∨ (0 < i ∧ c = 0)
    · rw [uP_bad hb] at h; cases h
    · by_cases hc : c < 128
      · rw [uP_end hb hc] at h
        injection h with h
        injection h with _ h2
        exact ⟨1, by simp, h2.symm⟩
      · rw [uP_on hb hc] at h
        obtain ⟨k, hk, e⟩ := ih _ _ _ _ h
        exact ⟨k + 1, by simp; omega, e⟩
theorem uP_err : ∀ (s : List Nat) (i a : Nat) (e : Int), uP i a s = .inl e → e = 2 ∨ e = 3 := by
  intro s
  induction s with
  | nil => intro i a e h; injection h with h; exact .inr h.symm
  | cons c s ih =>
    intro i a e h
    by_cases hb : (i = 9 ∧ 1 < c) ∨ (0 < i ∧ c = 0)
    · rw [uP_bad hb] at h; injection h with h; exact .inl h.symm
    · by_cases hc : c < 128
      · rw [uP_end hb hc] at h; cases h
      · rw [uP_on hb hc] at h; exact ih _ _ _ h
/- a varint that was written is read -/
theorem uP_vint (n : Nat) : ∀ (i a : Nat) (t : List Nat), i ≤ 9 → n < 128 ^ (9 - i) * 2 → (0 < i → 0 < n) → uP i a (vint n ++ t) = .inr (a + n * 128 ^ i, t) := by
  induction n using Nat.strongRecOn with
  | ind n ih =>
    intro i a t hi hn h0
    by_cases h : n < 128
    · rw [vint_lt h, List.singleton_append, uP_end _ h, Nat.mod_eq_of_lt h]
      rintro (⟨rfl, h1⟩ | ⟨h1, h2⟩)
      · simp at hn; omega
      · have := h0 h1; omega
    · have h9 : i < 9 := by
        rcases Nat.lt_or_ge i 9 with h1 | h1
        · exact h1
        · have : i = 9 := by omega
          subst this
          simp at hn; omega
      rw [vint_ge h, List.cons_append, uP_on (by omega) (by omega)]
      have e1 : (9 - i) = (9 - (i + 1)) + 1 := by omega
      rw [e1, Nat.pow_succ] at hn
      rw [ih (n / 128) (by omega) (i + 1) _ t (by omega) (by omega) (by omega)]
      have e2 : (n % 128 + 128) % 128 = n % 128 := by omega
      rw [e2, Nat.pow_succ, Nat.add_assoc]
      congr 3
      have := Nat.div_add_mod n 128
      calc n % 128 * 128 ^ i + n / 128 * (128 ^ i * 128) = (n % 128 + 128 * (n / 128)) * 128 ^ i := by
            rw [Nat.add_mul, Nat.mul_comm (128 ^ i) 128, ← Nat.mul_assoc, Nat.mul_comm (n / 128) 128]
        _ = n * 128 ^ i := by rw [Nat.add_comm, this]
theorem uP_vint0 {n : Nat} (hn : n < 18446744073709551616) (t : List Nat) : uP 0 0 (vint n ++ t) = .inr (n, t) := by
  rw [uP_vint n 0 0 t (by omega) (by have : (128 : Nat) ^ (9 - 0) * 2 = 18446744073709551616 := by decide
                                     omega) (by omega)]
  simp

theorem uP_canon : ∀ (s : List Nat) (i a n : Nat) (t : List Nat), Bytes s → uP i a s = .inr (n, t) → ∃ m, s = vint m ++ t ∧ n = a + m * 128 ^ i ∧ (0 < i → 0 < m) := by
  intro s
  induction s with
  | nil => intro i a n t _ h; cases h
  | cons c s ih =>
    intro i a n t hB h
    have hc256 := hB c (by simp)
    by_cases hb : (i = 9 ∧ 1 < c) ∨ (0 < i ∧ c = 0)
    · rw [uP_bad hb] at h; cases h
    · by_cases hc : c < 128
      · rw [uP_end hb hc] at h
        injection h with h
        injection h with h1 h2
        refine ⟨c, by rw [vint_lt hc, h2]; rfl, by rw [← h1, Nat.mod_eq_of_lt hc], fun h0 => by omega⟩
      · rw [uP_on hb hc] at h
        obtain ⟨m, e1, e2, e3⟩ := ih _ _ _ _ (fun x hx => hB x (by simp [hx])) h
        have hm := e3 (by omega)
        refine ⟨c % 128 + 128 * m, ?_, ?_, fun _ => by omega⟩
        · rw [vint_ge (by omega), e1, List.cons_append]
          congr 2
          · omega
          · congr 1; congr 1; omega
        · rw [e2, Nat.pow_succ, Nat.add_mul, Nat.mul_comm 128 m, Nat.mul_assoc, Nat.mul_comm 128 (128 ^ i), Nat.add_assoc]
theorem uP_canon0 {s : List Nat} (h : Bytes s) {n : Nat} {t : List Nat} (hu : uP 0 0 s = .inr (n, t)) : s = vint n ++ t := by
  obtain ⟨m, e1, e2, _⟩ := uP_canon s 0 0 n t h hu
  have : n = m := by simpa using e2
  rw [this]; exact e1

/- the state of a reader: its error, or what is left -/
abbrev RSt := Sum Int (List Nat)
def sU (s : RSt) : Nat × RSt :=
  match s with
  | .inl e => (0, .inl e)
  | .inr l => match uP 0 0 l with
    | .inl e => (0, .inl e)
    | .inr (n, t) => (n, .inr t)
def sI (s : RSt) : Int × RSt := (unzig (sU s).1, (sU s).2)
def sRaw (s : RSt) : List Nat × RSt :=
  match sU s with
  | (_, .inl e) => ([], .inl e)
  | (n, .inr t) => if t.length < n then ([], .inl 3) else (t.take n, .inr (t.drop n))
def sEnd : RSt → Int
  | .inl e => e
  | .inr [] => 0
  | .inr (_ :: _) => 2
theorem sU_inl (e : Int) : sU (.inl e) = (0, .inl e) := rfl
theorem sU_err {l : List Nat} {e : Int} (h : uP 0 0 l = .inl e) : sU (.inr l) = (0, .inl e) := by unfold sU; simp only [h]
theorem sU_ok {l : List Nat} {n : Nat} {t : List Nat} (h : uP 0 0 l = .inr (n, t)) : sU (.inr l) = (n, .inr t) := by unfold sU; simp only [h]
theorem sRaw_err {s : RSt} {n : Nat} {e : Int} (h : sU s = (n, .inl e)) : sRaw s = ([], .inl e) := by unfold sRaw; simp only [h]
theorem sRaw_more {s : RSt} {n : Nat} {t : List Nat} (h : sU s = (n, .inr t)) (hn : t.length < n) : sRaw s = ([], .inl 3) := by unfold sRaw; simp only [h, if_pos hn]
theorem sRaw_ok {s : RSt} {n : Nat} {t : List Nat} (h : sU s = (n, .inr t)) (hn : ¬ t.length < n) : sRaw s = (t.take n, .inr (t.drop n)) := by unfold sRaw; simp only [h, if_neg hn]
theorem sU_lt (s : RSt) : (sU s).1 < 18446744073709551616 := by
  rcases s with e | l
  · rw [sU_inl]; exact Nat.zero_lt_succ _
  · cases h : uP 0 0 l with
    | inl e => rw [sU_err h]; exact Nat.zero_lt_succ _
    | inr p => obtain ⟨n, t⟩ := p; rw [sU_ok h]; exact uP_lt l 0 0 n t (by omega) (by decide) h
/- a block decoded -/
def inB (core : List Nat) : Sum Int (Clm × List Clm) :=
  let a := sI (.inr core)
  let b := sI a.2
  let c := sI b.2
  let d := sI c.2
  let r := sRaw d.2
  if sEnd r.2 ≠ 0 then .inl 2 else
  match refDecode r.1 with
  | none => .inl 2
  | some l => if okB (a.1, b.1, c.1, d.1) then .inr ((a.1, b.1, c.1, d.1), l) else .inl 1
def decB (bs : List Nat) : Sum Int (Clm × List Clm) :=
  let r := sRaw (.inr bs)
  let u := sU r.2
  if sEnd u.2 ≠ 0 then .inl 2 else if u.1 ≠ hashB blockL r.1 then .inl 11 else inB r.1
end Go.Proofs.YtgkmfblmkfclbaaGreatDoor.Pl
namespace Go.Proofs.YtgkmfblmkfclbaaGreatDoor
open Go.RowKit Pl

/- the reader in block g: the bytes bs, so many of them read, the error -/
structure WR (w : World) (base g : Nat) (v : Value) (bs : List Nat) (a : Nat) (er : Int) : Prop where
  box : Box w g 117 #[v, .int .i64 (a : Nat), .int .i64 er]
  row : Mine w base 5 v (bs.map vb)
  bytes : Bytes bs
  small : bs.length ≤ 1000000
  here : a ≤ bs.length
theorem WR.form {w : World} {base g : Nat} {v : Value} {bs : List Nat} {a : Nat} {er : Int} (h : WR w base g v bs a er) : ∃ A n c, v = .slice A n c ∧ n = bs.length := by
  obtain ⟨A, n, c, rfl, hn⟩ := h.row.slice
  exact ⟨A, n, c, rfl, by simpa using hn⟩
theorem WR.drewN {w : World} {base g : Nat} {v : Value} {bs : List Nat} {a : Nat} {er : Int} (h : WR w base g v bs a er) (n : Nat) : WR (w.drewN n) base g v bs a er := ⟨h.box, h.row, h.bytes, h.small, h.here⟩
theorem WR.grew {w w' : World} {base g : Nat} {v : Value} {bs : List Nat} {a : Nat} {er : Int} (h : WR w base g v bs a er) (k : Grew w w') : WR w' base g v bs a er := ⟨h.box.grew k, h.row.grew k, h.bytes, h.small, h.here⟩
theorem WR.setAt {w : World} {base g : Nat} {v : Value} {bs : List Nat} {a : Nat} {er : Int} (h : WR w base g v bs a er) (b : Nat) (hb : b ≤ bs.length) : WR (w.setCell ⟨g, 1, none⟩ (.int .i64 (b : Nat))) base g v bs b er :=
  ⟨by simpa using h.box.set_ 1 (.int .i64 (b : Nat)), h.row.far (fun e => h.row.ne_box e h.box (by decide) rfl) _, h.bytes, h.small, hb⟩
theorem WR.setErr {w : World} {base g : Nat} {v : Value} {bs : List Nat} {a : Nat} {er : Int} (h : WR w base g v bs a er) (x : Int) : WR (w.setCell ⟨g, 2, none⟩ (.int .i64 x)) base g v bs a x :=
  ⟨by simpa using h.box.set_ 2 (.int .i64 x), h.row.far (fun e => h.row.ne_box e h.box (by decide) rfl) _, h.bytes, h.small, h.here⟩
theorem WR.cells {w : World} {base g : Nat} {v : Value} {bs : List Nat} {a : Nat} {er : Int} (h : WR w base g v bs a er) : w.cell? ⟨g, 0, none⟩ = some v ∧ w.cell? ⟨g, 1, none⟩ = some (.int .i64 (a : Nat)) ∧ w.cell? ⟨g, 2, none⟩ = some (.int .i64 er) := ⟨h.box.cell 0, h.box.cell 1, h.box.cell 2⟩

/- a number stored into a cell -/
theorem st_i {ops : Array Oper} {rest : List Oper} {o : Oper} {a : Act} {w : World} {Q : Exit → Act → World → Prop} (x y : Operand) (g k : Nat) (n : Int) (u : Value) (hgd : o.guard = none) (ho : o.op = .store 3 x y)
    (hx : a.eval x = .pointer (some ⟨g, k, none⟩)) (hy : a.eval y = .int .i64 n) (hc : w.cell? ⟨g, k, none⟩ = some u) (hf : w.frozen? ⟨g, k, none⟩ = false)
    (h : ∀ w', w' = w.setCell ⟨g, k, none⟩ (.int .i64 n) → wpList Tryz.prog ops Q rest (a.put o.dst undef) w') : wpList Tryz.prog ops Q (o :: rest) a w := by
  refine wpList_plain hgd fun K hK => ?_
  unfold Oper.wp execOp
  simp only [ho, hx, hy]
  go_simp
  exact hK _ _ (h _ rfl)
theorem st_e {ops : Array Oper} {rest : List Oper} {o : Oper} {a : Act} {w : World} {Q : Exit → Act → World → Prop} (x y : Operand) (g k : Nat) (n : Int) (u : Value) (hgd : o.guard = none) (ho : o.op = .store 33 x y)
    (hx : a.eval x = .pointer (some ⟨g, k, none⟩)) (hy : a.eval y = .int .i64 n) (hc : w.cell? ⟨g, k, none⟩ = some u) (hf : w.frozen? ⟨g, k, none⟩ = false)
    (h : ∀ w', w' = w.setCell ⟨g, k, none⟩ (.int .i64 n) → wpList Tryz.prog ops Q rest (a.put o.dst undef) w') : wpList Tryz.prog ops Q (o :: rest) a w := by
  refine wpList_plain hgd fun K hK => ?_
  unfold Oper.wp execOp
  simp only [ho, hx, hy]
  go_simp
  exact hK _ _ (h _ rfl)
set_option maxHeartbeats 1600000 in
theorem octet_err (g base : Nat) (v : Value) (bs : List Nat) (a : Nat) (er : Int) (w : World) (h : WR w base g v bs a er) (he : er ≠ 0) :
    Calls Tryz.prog 64 #[.pointer (some ⟨g, 0, none⟩)] w fun e w' => e = .returned (.int .u8 0) ∧ w' = w := by
  obtain ⟨c0, c1, c2⟩ := h.cells
  have t0 : (er != 0) = true := by simpa using he
  clear h he c0
  go_enter Tryz.func64, Tryz.ntmps64
  go_wp2_with fail
  go_ret
  exact ⟨rfl, rfl⟩
set_option maxHeartbeats 1600000 in
theorem octet_end (g base : Nat) (v : Value) (bs : List Nat) (a : Nat) (w : World) (h : WR w base g v bs a 0) (ha : bs.length ≤ a) :
    Calls Tryz.prog 64 #[.pointer (some ⟨g, 0, none⟩)] w fun e w' => e = .returned (.int .u8 0) ∧ WR w' base g v bs a 3 ∧ KeepsR g w w' := by
  obtain ⟨c0, c1, c2⟩ := h.cells
  have f2 := h.box.frozen 2
  obtain ⟨A, n, c, rfl, hn⟩ := h.form
  have hle : (n : Int) ≤ (a : Int) := by omega
  have hsm := h.small
  have hhe := h.here
  have H := Lib.hid h
  have hsz : bs.length < 1000001 := by omega
  clear h hn
  go_enter Tryz.func64, Tryz.ntmps64
  go_wp2_with fail
  go_quiet (fail)
  go_wp2_with fail
  go_ret
  have hd := H.out.drewN nq
  exact ⟨rfl, hd.setErr 3, ((KeepsR.refl g w).drewN nq).trans (KeepsR.set g _ 2 _)⟩
set_option maxHeartbeats 1600000 in
theorem octet_ok (g base : Nat) (v : Value) (bs : List Nat) (a : Nat) (w : World) (h : WR w base g v bs a 0) (ha : a < bs.length) :
    Calls Tryz.prog 64 #[.pointer (some ⟨g, 0, none⟩)] w fun e w' => e = .returned (.int .u8 (bs.getD a 0 : Nat)) ∧ WR w' base g v bs (a + 1) 0 ∧ KeepsR g w w' := by
  obtain ⟨c0, c1, c2⟩ := h.cells
  have f1 := h.box.frozen 1
  obtain ⟨A, n, c, rfl, hn⟩ := h.form
  obtain ⟨r, rfl⟩ := h.row.some_ (by rw [List.length_map]; omega)
  have hcl := h.row.cellAt (j := a) (by rw [List.length_map]; exact ha)
  rw [List.getElem_map] at hcl
  have hgd : bs.getD a 0 = bs[a] := by rw [List.getD_eq_getElem?_getD, List.getElem?_eq_getElem ha]; rfl
  rw [hgd]
  unfold vb at hcl
  have hlt : (a : Int) < (n : Int) := by omega
  have hsm := h.small
  have H := Lib.hid h
  have hW := h.setAt (a + 1) (by omega)
  have HW := Lib.hid hW
  have rne : r ≠ g := fun e => h.row.ne_box (k := r) rfl h.box (by decide) e
  have hrl : r < w.heap.size := (h.row.lt r rfl).2
  have HN := Lib.hid hn
  obtain ⟨x, hx⟩ : ∃ x, x = bs[a] := ⟨_, rfl⟩
  rw [← hx] at hcl ⊢
  have HXX := Lib.hid hx
  clear hx
  have hnl : n ≤ 1000000 := by omega
  clear h hgd hW hn
  go_enter Tryz.func64, Tryz.ntmps64
  go_wp2_with fail
  go_quiet (fail)
  have hd := H.out.drewN nq
  have hkd : KeepsR g w (w.drewN nq) := (KeepsR.refl g w).drewN nq
  have HD := Lib.hid hd
  have HKD := Lib.hid hkd
  have e1 : (w.drewN nq).cell? ⟨g, 1, none⟩ = some (.int .i64 (a : Nat)) := c1
  have e1f : (w.drewN nq).frozen? ⟨g, 1, none⟩ = false := f1
  clear c0 c1 c2 f1 hcl hd hkd
  have td : decide (n ≤ a) = false := by simp; omega
  generalize w.drewN nq = w1 at *
  go_wp2_with (refine st_i (.tmp 27) (.tmp 25) g 1 ((a + 1 : Nat) : Int) (.int .i64 (a : Nat)) rfl rfl rfl (by show Value.int _ _ = _; congr 1) e1 e1f ?_; intro w2 hw2)
  have h2 : WR w2 base g (.slice (some ⟨r, 0, none⟩) n c) bs (a + 1) 0 := by rw [hw2]; exact HD.out.setAt (a + 1) (by have := HN.out; omega)
  have k2 : KeepsR g w w2 := by rw [hw2]; exact HKD.out.trans (KeepsR.set g _ 1 _)
  obtain ⟨c0, c1, c2⟩ := h2.cells
  have hcl : w2.cell? ⟨r, a, none⟩ = some (.int .u8 (x : Nat)) := by
    have := h2.row.cellAt (j := a) (by rw [List.length_map]; exact ha)
    rw [List.getElem_map, ← HXX.out] at this
    exact this
  have H2 := Lib.hid h2
  have HK2 := Lib.hid k2
  have s1 : IntKind.i64.wrap (((a + 1 : Nat) : Int) - 1) = (a : Int) := by rw [IntWalk.i64_in _ (by omega)]; omega
  have s2 : IntKind.i64.wrap ((a : Int) + 1 - 1) = (a : Int) := by rw [IntWalk.i64_in _ (by omega)]; omega
  have s3 : IntKind.i64.wrap (a : Int) = (a : Int) := IntWalk.i64_in _ (by omega)
  have s4 : (0 : Int) ≤ (a : Int) := by omega
  clear hw2 h2 k2 HD HKD H HW e1 e1f
  go_wp2_with fail
  go_quiet (fail)
  go_wp2_with fail
  go_ret
  exact ⟨rfl, H2.out.drewN _, HK2.out.drewN _⟩
end Go.Proofs.YtgkmfblmkfclbaaGreatDoor
