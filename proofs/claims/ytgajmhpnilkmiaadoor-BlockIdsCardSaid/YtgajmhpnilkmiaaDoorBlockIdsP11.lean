/- The examples of the chapter hold. The plain law of the claims' codec: what encoding and decoding compute, that they undo each other, and that the reference computes the same. Rows of claims, four cells each: a row of the call's own; a slice that reads as a list of claims. -/
import Derived.Test.YtgajmhpnilkmiaaDoorBlockIdsP10
import Derived.Test.YtgajmhpnilkmiaaDoorBlockIdsP04
namespace Go.Proofs.YtgajmhpnilkmiaaDoor
open Go.RowKit Pl

theorem Tab.more {w : World} {B B' : Nat} (h : Tab w B) (hB : B ≤ B') : Tab w B' := ⟨Nat.lt_of_lt_of_le h.1 hB, h.2⟩
theorem Tab.on {w w' : World} (h : Tab w w.heap.size) (hk : Grew w w') : Tab w' w'.heap.size := (h.grew hk).more hk.size
/- a row that was just laid -/
theorem Rd.laid (w : World) (t : TypeId) (xs : List Value) : Rd (w.alloc (.cells xs.toArray t)) (w.heap.size + 1) (.slice (some ⟨w.heap.size, 0, none⟩) xs.length xs.length) xs := by
  refine ⟨_, _, rfl, Nat.le_refl _, fun _ => ⟨_, rfl, by show w.heap.size < w.heap.size + 1; omega, fun j u hu => ?_⟩⟩
  have e1 : (⟨w.heap.size, 0, none⟩ : Addr).add j = ⟨w.heap.size, j, none⟩ := by unfold Addr.add; split <;> simp_all
  rw [e1, (Box.new w t xs.toArray).cell]
  simpa using hu
theorem ex_words : dwords [[98], [97], [98]] = [[98], [97]] := by decide
theorem ex_idx : didx [[98], [97], [98]] = [0, 1, 0] := by decide
theorem ex_read : readInts [154, 169, 64] = some [5, 7, 9] := by decide +kernel
theorem ex_nil : pack (ints []) = [0] := by decide +kernel
theorem ex_ints : pack (ints [5, 7, 9]) = [154, 169, 64] := by decide +kernel

set_option maxHeartbeats 3200000 in
set_option maxRecDepth 100000 in
theorem lives_any (w : World) (ht : Tab w w.heap.size) :
    Calls Tryd.prog 20 #[] w fun e w' => e = .returned (.bool true) ∧ Grew w w' := by
  have r1 : Rd (w.alloc (.cells #[.string ⟨#[98]⟩, .string ⟨#[97]⟩, .string ⟨#[98]⟩] 9)) (w.heap.size + 1) (.slice (some ⟨w.heap.size, 0, none⟩) 3 3) ([[98], [97], [98]].map vs) := Rd.laid w _ _
  have hG1 : Grew w (w.alloc (.cells #[.string ⟨#[98]⟩, .string ⟨#[97]⟩, .string ⟨#[98]⟩] 9)) := (Grew.refl w).alloc _
  have HD := Lib.hid (dict_any _ _ _ (r1.more (by simp)) (by simp) (by intro s hs; simp at hs; rcases hs with rfl | rfl | rfl <;> simp))
  have HG1 := Lib.hid hG1
  clear r1 hG1
  go_enter Tryd.func20, Tryd.ntmps20
  go_wp2_with fail
  refine HD.out.mono ?_
  rintro e w2 ⟨v1, v2, rfl, k1, k2, k3⟩
  rw [ex_words] at k1
  rw [ex_idx] at k2
  have hG2 := HG1.out.trans k3
  have r2 : Rd (w2.alloc (.cells #[.int .u8 154, .int .u8 169, .int .u8 64] 5)) (w2.heap.size + 1) (.slice (some ⟨w2.heap.size, 0, none⟩) 3 3) ([154, 169, 64].map vb) := Rd.laid w2 _ _
  have ht2 := ht.on (hG2.alloc (.cells #[.int .u8 154, .int .u8 169, .int .u8 64] 5))
  have HR := Lib.hid (readInts_any _ [154, 169, 64] _ (r2.more (by simp)) (by intro x hx; simp at hx; omega) (by simp) ht2)
  rw [ex_read] at HR
  clear r2 ht2 HD
  go_wp2_with fail
  refine HR.out.mono ?_
  rintro e w3 ⟨m1, v3, rfl, m2⟩
  have hG3 := (hG2.alloc _).trans m1
  have ht3 := ht.on hG3
  have HI := Lib.hid (cints_any (.slice none 0 0) [] w3 ⟨none, 0, rfl, Nat.le_refl _, fun h => absurd h (by simp)⟩ (by simp) (by simp) ht3)
  rw [ex_nil] at HI
  clear HR
  go_wp2_with fail
  refine HI.out.mono ?_
  rintro e w4 ⟨v4, rfl, p1, p2⟩
  have hG4 := hG3.trans p2
  have r4 : Rd (w4.alloc (.cells #[.int .u8 0] 5)) (w4.heap.size + 1) (.slice (some ⟨w4.heap.size, 0, none⟩) 1 1) ([0].map vb) := Rd.laid w4 _ _
  have HS := Lib.hid (sameBytes_any v4 _ [0] [0] _ ((p1.alloc (.cells #[.int .u8 0] 5)).rd) (r4.more (by simp)) (by simp) (by simp))
  rw [show decide (([0] : List Nat) = [0]) = true from rfl] at HS
  clear r4 HI
  go_wp2_with fail
  refine HS.out.mono ?_
  rintro e w5 ⟨rfl, n5, h5⟩
  have g45 : Grew w4 w5 := by rw [h5]; exact ((Grew.refl w4).alloc _).drewN n5
  have hG5 := hG4.trans g45
  clear h5 HS
  have m25 := (m2.grew p2).grew g45
  -- SameInts(c, 5 7 9)
  have r5 : Rd (w5.alloc (.cells #[.int .i64 5, .int .i64 7, .int .i64 9] 3)) (w5.heap.size + 1) (.slice (some ⟨w5.heap.size, 0, none⟩) 3 3) ([5, 7, 9].map vi) := Rd.laid w5 _ _
  have HS5 := Lib.hid (sameInts_any v3 _ [5, 7, 9] [5, 7, 9] _ ((m25.alloc (.cells #[.int .i64 5, .int .i64 7, .int .i64 9] 3)).rd) (r5.more (by simp)) (by simp) (by simp))
  rw [show decide (([5, 7, 9] : List Int) = [5, 7, 9]) = true from rfl] at HS5
  clear r5
  go_wp2_with fail
  refine HS5.out.mono ?_
  rintro e w6 ⟨rfl, n6, h6⟩
  have g56 : Grew w5 w6 := by rw [h6]; exact ((Grew.refl w5).alloc _).drewN n6
  have hG6 := hG5.trans g56
  clear h6 HS5
  have m26 := m25.grew g56
  -- Ints(c)
  have HI6 := Lib.hid (cints_any v3 [5, 7, 9] w6 m26.rd (by intro x hx; simp at hx; unfold I64; omega) (by simp) (ht.on hG6))
  rw [ex_ints] at HI6
  go_wp2_with fail
  refine HI6.out.mono ?_
  rintro e w7 ⟨v7, rfl, q1, q2⟩
  have hG7 := hG6.trans q2
  clear HI6
  have r7 : Rd (w7.alloc (.cells #[.int .u8 154, .int .u8 169, .int .u8 64] 5)) (w7.heap.size + 1) (.slice (some ⟨w7.heap.size, 0, none⟩) 3 3) ([154, 169, 64].map vb) := Rd.laid w7 _ _
  have HS7 := Lib.hid (sameBytes_any v7 _ [154, 169, 64] [154, 169, 64] _ ((q1.alloc (.cells #[.int .u8 154, .int .u8 169, .int .u8 64] 5)).rd) (r7.more (by simp)) (by simp) (by simp))
  rw [show decide (([154, 169, 64] : List Nat) = [154, 169, 64]) = true from rfl] at HS7
  clear r7
  go_wp2_with fail
  refine HS7.out.mono ?_
  rintro e w8 ⟨rfl, n8, h8⟩
  have g78 : Grew w7 w8 := by rw [h8]; exact ((Grew.refl w7).alloc _).drewN n8
  have hG8 := hG7.trans g78
  clear h8 HS7
  have k18 := (((((k1.grew ((Grew.refl w2).alloc _)).grew m1).grew p2).grew (g45.trans g56)).grew q2).grew g78
  have k28 := (((((k2.grew ((Grew.refl w2).alloc _)).grew m1).grew p2).grew (g45.trans g56)).grew q2).grew g78
  -- SameTexts(words, b a)
  have r8 : Rd (w8.alloc (.cells #[.string ⟨#[98]⟩, .string ⟨#[97]⟩] 9)) (w8.heap.size + 1) (.slice (some ⟨w8.heap.size, 0, none⟩) 2 2) ([[98], [97]].map vs) := Rd.laid w8 _ _
  have HS8 := Lib.hid (sameTexts_any v1 _ [[98], [97]] [[98], [97]] _ ((k18.alloc (.cells #[.string ⟨#[98]⟩, .string ⟨#[97]⟩] 9)).rd) (r8.more (by simp)) (by simp) (by simp))
  rw [show decide (([[98], [97]] : List Str) = [[98], [97]]) = true from rfl] at HS8
  clear r8
  go_wp2_with fail
  refine HS8.out.mono ?_
  rintro e w9 ⟨rfl, n9, h9⟩
  have g89 : Grew w8 w9 := by rw [h9]; exact ((Grew.refl w8).alloc _).drewN n9
  have hG9 := hG8.trans g89
  clear h9 HS8
  have k29 := k28.grew g89
  -- SameInts(l, 0 1 0)
  have r9 : Rd (w9.alloc (.cells #[.int .i64 0, .int .i64 1, .int .i64 0] 3)) (w9.heap.size + 1) (.slice (some ⟨w9.heap.size, 0, none⟩) 3 3) ([0, 1, 0].map vi) := Rd.laid w9 _ _
  have HS9 := Lib.hid (sameInts_any v2 _ [0, 1, 0] [0, 1, 0] _ ((k29.alloc (.cells #[.int .i64 0, .int .i64 1, .int .i64 0] 3)).rd) (r9.more (by simp)) (by simp) (by simp))
  rw [show decide (([0, 1, 0] : List Int) = [0, 1, 0]) = true from rfl] at HS9
  clear r9
  go_wp2_with fail
  refine HS9.out.mono ?_
  rintro e wa ⟨rfl, na, ha⟩
  have g9a : Grew w9 wa := by rw [ha]; exact ((Grew.refl w9).alloc _).drewN na
  have hGa := hG9.trans g9a
  clear ha HS9
  go_wp2_with fail
  go_ret
  exact ⟨rfl, hGa⟩
end Go.Proofs.YtgajmhpnilkmiaaDoor
namespace Go.Proofs.YtgajmhpnilkmiaaDoor.Pl
open Go.RowKit

/- a claim: from, to, lo, hi -/
abbrev Clm := Int × Int × Int × Int
def zc : Clm := (0, 0, 0, 0)
def R40 (x : Int) : Prop := -1099511627776 ≤ x ∧ x ≤ 1099511627776
instance (x : Int) : Decidable (R40 x) := by unfold R40; infer_instance
def okC (c : Clm) : Prop := R40 c.1 ∧ R40 c.2.1 ∧ R40 c.2.2.1 ∧ R40 c.2.2.2
instance (c : Clm) : Decidable (okC c) := by unfold okC; infer_instance
theorem ok_zc : okC zc := by decide

/- the four numbers of a claim behind two others -/
def n0 (b a c : Clm) : Int := wrap64 (c.1 - 2 * a.1 + b.1)
def n1 (a c : Clm) : Int := wrap64 ((c.2.1 - c.1) - (a.2.1 - a.1))
def n2 (a c : Clm) : Int := wrap64 (c.2.2.1 - a.2.2.1)
def n3 (a c : Clm) : Int := wrap64 ((c.2.2.2 - c.2.2.1) - (a.2.2.2 - a.2.2.1))
def c4 (b a c : Clm) : List Int := [n0 b a c, n1 a c, n2 a c, n3 a c]
def cnums : Clm → Clm → List Clm → List Int
  | _, _, [] => []
  | b, a, c :: l => c4 b a c ++ cnums a c l
def cbits (l : List Clm) : List Bool := code l.length ++ codes (cnums zc zc l)
def encE (l : List Clm) : Int := if 4096 < l.length then 4 else if ∀ c ∈ l, okC c then 0 else 5
def encB (l : List Clm) : List Nat := if encE l = 0 then pack (cbits l) else []

/- the claim of four numbers behind two others -/
def nextC (b a : Clm) (d : Clm) : Clm :=
  (wrap64 (d.1 + 2 * a.1 - b.1),
   wrap64 (wrap64 (d.1 + 2 * a.1 - b.1) + d.2.1 + (a.2.1 - a.1)),
   wrap64 (d.2.2.1 + a.2.2.1),
   wrap64 (wrap64 (d.2.2.1 + a.2.2.1) + d.2.2.2 + (a.2.2.2 - a.2.2.1)))
theorem codes_append (l m : List Int) : codes (l ++ m) = codes l ++ codes m := by simp [codes]
theorem codes_one (x : Int) : codes [x] = code x := by simp [codes]
def parse4 (s : List Bool) : Option (Clm × List Bool) :=
  match parse s with
  | none => none
  | some (d0, s0) =>
    match parse s0 with
    | none => none
    | some (d1, s1) =>
      match parse s1 with
      | none => none
      | some (d2, s2) =>
        match parse s2 with
        | none => none
        | some (d3, s3) => some ((d0, d1, d2, d3), s3)
def l4 (d : Clm) : List Int := [d.1, d.2.1, d.2.2.1, d.2.2.2]
theorem parse4_some {s t : List Bool} {d : Clm} (h : parse4 s = some (d, t)) : s = codes (l4 d) ++ t ∧ I64 d.1 ∧ I64 d.2.1 ∧ I64 d.2.2.1 ∧ I64 d.2.2.2 ∧ t.length + 4 ≤ s.length := by
  unfold parse4 at h
  split at h
  · cases h
  rename_i d0 s0 h0
  split at h
  · cases h
  rename_i d1 s1 h1
  split at h
  · cases h
  rename_i d2 s2 h2
  split at h
  · cases h
  rename_i d3 s3 h3
  simp only [Option.some.injEq, Prod.mk.injEq] at h
  obtain ⟨rfl, rfl⟩ := h
  obtain ⟨e0, i0⟩ := code_parse h0
  obtain ⟨e1, i1⟩ := code_parse h1
  obtain ⟨e2, i2⟩ := code_parse h2
  obtain ⟨e3, i3⟩ := code_parse h3
  have l0 := parse_length h0
  have l1 := parse_length h1
  have l2 := parse_length h2
  have l3 := parse_length h3
  refine ⟨?_, i0, i1, i2, i3, by omega⟩
  rw [e0, e1, e2, e3]
  simp [codes, l4]
theorem parse4_codes {d : Clm} (h0 : I64 d.1) (h1 : I64 d.2.1) (h2 : I64 d.2.2.1) (h3 : I64 d.2.2.2) (t : List Bool) : parse4 (codes (l4 d) ++ t) = some (d, t) := by
  unfold parse4 l4
  have e : codes [d.1, d.2.1, d.2.2.1, d.2.2.2] ++ t = code d.1 ++ (code d.2.1 ++ (code d.2.2.1 ++ (code d.2.2.2 ++ t))) := by simp [codes]
  rw [e]
  simp only [parse_code h0, parse_code h1, parse_code h2, parse_code h3]

/- so many claims read; 'dreads' stops at a claim out of range -/
def creads : Nat → Clm → Clm → List Bool → Option (List Clm × List Bool)
  | 0, _, _, s => some ([], s)
  | k + 1, b, a, s =>
    match parse4 s with
    | none => none
    | some (d, t) => (creads k a (nextC b a d) t).map fun p => (nextC b a d :: p.1, p.2)
def dreads : Nat → Clm → Clm → List Bool → Option (List Clm × List Bool)
  | 0, _, _, s => some ([], s)
  | k + 1, b, a, s =>
    match parse4 s with
    | none => none
    | some (d, t) => if okC (nextC b a d) then (dreads k a (nextC b a d) t).map fun p => (nextC b a d :: p.1, p.2) else none
def finC (N : Nat) (t : List Bool) : Option (List Clm) :=
  match dreads N zc zc t with
  | none => none
  | some (l, r) => if padded r then some l else none
def decode (bs : List Nat) : Option (List Clm) :=
  match parse (bitsOf bs) with
  | none => none
  | some (n, t) => if n < 0 ∨ 4096 < n then none else finC n.toNat t
def finCR (bs : List Nat) (N : Nat) (t : List Bool) : Option (List Clm) :=
  match creads N zc zc t with
  | none => none
  | some (l, _) => if encE l = 0 ∧ encB l = bs then some l else none
def refDecode (bs : List Nat) : Option (List Clm) :=
  match parse (bitsOf bs) with
  | none => none
  | some (n, t) => if n < 0 ∨ 4096 < n then none else finCR bs n.toNat t

theorem dreads_iff (k : Nat) (b a : Clm) (s : List Bool) (l : List Clm) (r : List Bool) : dreads k b a s = some (l, r) ↔ creads k b a s = some (l, r) ∧ ∀ c ∈ l, okC c := by
  induction k generalizing b a s l r with
  | zero =>
    simp only [dreads, creads, Option.some.injEq, Prod.mk.injEq]
    constructor
    · rintro ⟨rfl, rfl⟩; simp
    · rintro ⟨⟨rfl, rfl⟩, _⟩; simp
  | succ k ih =>
    simp only [dreads, creads]
    split
    · simp
    · rename_i d t hp
      by_cases hok : okC (nextC b a d)
      · rw [if_pos hok]
        simp only [Option.map_eq_some_iff]
        constructor
        · rintro ⟨⟨l', r'⟩, h1, h2⟩
          simp only [Prod.mk.injEq] at h2
          obtain ⟨rfl, rfl⟩ := h2
          obtain ⟨h3, h4⟩ := (ih _ _ _ _ _).1 h1
          refine ⟨⟨_, h3, rfl⟩, fun c hc => ?_⟩
          rcases List.mem_cons.1 hc with rfl | hc
          · exact hok
          · exact h4 c hc
        · rintro ⟨⟨⟨l', r'⟩, h1, h2⟩, h4⟩
          simp only [Prod.mk.injEq] at h2
          obtain ⟨rfl, rfl⟩ := h2
          exact ⟨_, (ih _ _ _ _ _).2 ⟨h1, fun c hc => h4 c (by simp [hc])⟩, rfl⟩
      · rw [if_neg hok]
        constructor
        · intro h; cases h
        · rintro ⟨h1, h4⟩
          simp only [Option.map_eq_some_iff] at h1
          obtain ⟨⟨l', r'⟩, h1, h2⟩ := h1
          simp only [Prod.mk.injEq] at h2
          obtain ⟨rfl, rfl⟩ := h2
          exact absurd (h4 _ (by simp)) hok

/- the numbers of the claim that numbers made are those numbers -/
theorem c4_next {b a d : Clm} (h0 : I64 d.1) (h1 : I64 d.2.1) (h2 : I64 d.2.2.1) (h3 : I64 d.2.2.2) : c4 b a (nextC b a d) = l4 d := by
  unfold c4 l4 n0 n1 n2 n3 nextC
  simp only
  have e0 : wrap64 (wrap64 (d.1 + 2 * a.1 - b.1) - 2 * a.1 + b.1) = d.1 := by
    rw [show d.1 = wrap64 d.1 from (wrap_of h0).symm]; unfold wrap64; omega
  have e1 : wrap64 (wrap64 (wrap64 (d.1 + 2 * a.1 - b.1) + d.2.1 + (a.2.1 - a.1)) - wrap64 (d.1 + 2 * a.1 - b.1) - (a.2.1 - a.1)) = d.2.1 := by
    rw [show d.2.1 = wrap64 d.2.1 from (wrap_of h1).symm]; generalize wrap64 (d.1 + 2 * a.1 - b.1) = x; unfold wrap64; omega
  have e2 : wrap64 (wrap64 (d.2.2.1 + a.2.2.1) - a.2.2.1) = d.2.2.1 := by
    rw [show d.2.2.1 = wrap64 d.2.2.1 from (wrap_of h2).symm]; unfold wrap64; omega
  have e3 : wrap64 (wrap64 (wrap64 (d.2.2.1 + a.2.2.1) + d.2.2.2 + (a.2.2.2 - a.2.2.1)) - wrap64 (d.2.2.1 + a.2.2.1) - (a.2.2.2 - a.2.2.1)) = d.2.2.2 := by
    rw [show d.2.2.2 = wrap64 d.2.2.2 from (wrap_of h3).symm]; generalize wrap64 (d.2.2.1 + a.2.2.1) = x; unfold wrap64; omega
  rw [e0, e1, e2, e3]
/- the claim of its own numbers -/
theorem next_c4 (b a c : Clm) (h : I64 c.1 ∧ I64 c.2.1 ∧ I64 c.2.2.1 ∧ I64 c.2.2.2) : nextC b a (n0 b a c, n1 a c, n2 a c, n3 a c) = c := by
  obtain ⟨h0, h1, h2, h3⟩ := h
  unfold nextC n0 n1 n2 n3
  simp only
  have e0 : wrap64 (wrap64 (c.1 - 2 * a.1 + b.1) + 2 * a.1 - b.1) = c.1 := by
    rw [show c.1 = wrap64 c.1 from (wrap_of h0).symm]; unfold wrap64; omega
  have e2 : wrap64 (wrap64 (c.2.2.1 - a.2.2.1) + a.2.2.1) = c.2.2.1 := by
    rw [show c.2.2.1 = wrap64 c.2.2.1 from (wrap_of h2).symm]; unfold wrap64; omega
  rw [e0, e2]
  have e1 : wrap64 (c.1 + wrap64 (c.2.1 - c.1 - (a.2.1 - a.1)) + (a.2.1 - a.1)) = c.2.1 := by
    rw [show c.2.1 = wrap64 c.2.1 from (wrap_of h1).symm]; unfold wrap64; omega
  have e3 : wrap64 (c.2.2.1 + wrap64 (c.2.2.2 - c.2.2.1 - (a.2.2.2 - a.2.2.1)) + (a.2.2.2 - a.2.2.1)) = c.2.2.2 := by
    rw [show c.2.2.2 = wrap64 c.2.2.2 from (wrap_of h3).symm]; unfold wrap64; omega
  rw [e1, e3]
theorem ok_i64 {c : Clm} (h : okC c) : I64 c.1 ∧ I64 c.2.1 ∧ I64 c.2.2.1 ∧ I64 c.2.2.2 := by
  unfold okC R40 at h
  unfold I64
  omega

theorem creads_some {k : Nat} {b a : Clm} {s : List Bool} {l : List Clm} {r : List Bool} (h : creads k b a s = some (l, r)) :
    s = codes (cnums b a l) ++ r ∧ l.length = k ∧ 4 * k + r.length ≤ s.length := by
  induction k generalizing b a s l r with
  | zero =>
    simp only [creads, Option.some.injEq, Prod.mk.injEq] at h
    obtain ⟨rfl, rfl⟩ := h
    simp [cnums, codes]
  | succ k ih =>
    simp only [creads] at h
    split at h
    · simp at h
    · rename_i d t hp
      simp only [Option.map_eq_some_iff] at h
      obtain ⟨⟨l', r'⟩, hr, he⟩ := h
      simp only [Prod.mk.injEq] at he
      obtain ⟨rfl, rfl⟩ := he
      obtain ⟨e1, e2, e3⟩ := ih hr
      obtain ⟨hs, i0, i1, i2, i3, hl⟩ := parse4_some hp
      refine ⟨?_, by simp [e2], by omega⟩
      rw [hs, e1]
      simp only [cnums, c4_next i0 i1 i2 i3, codes_append, List.append_assoc]
theorem creads_claims (l : List Clm) (b a : Clm) (h : ∀ c ∈ l, okC c) (r : List Bool) : creads l.length b a (codes (cnums b a l) ++ r) = some (l, r) := by
  induction l generalizing b a with
  | nil => simp [creads, cnums, codes]
  | cons c l ih =>
    have hc := ok_i64 (h c (by simp))
    have e : codes (cnums b a (c :: l)) ++ r = codes (l4 (n0 b a c, n1 a c, n2 a c, n3 a c)) ++ (codes (cnums a c l) ++ r) := by
      simp only [cnums, codes_append, List.append_assoc]; rfl
    rw [e, List.length_cons]
    simp only [creads]
    rw [parse4_codes (wrap_I64 _) (wrap_I64 _) (wrap_I64 _) (wrap_I64 _)]
    simp only [next_c4 b a c hc]
    rw [ih a c (fun x hx => h x (by simp [hx]))]; rfl

theorem decode_eq_ref (bs : List Nat) (hb : Bytes bs) : decode bs = refDecode bs := by
  unfold decode refDecode
  cases hp : parse (bitsOf bs) with
  | none => rfl
  | some p =>
    obtain ⟨n, t⟩ := p
    simp only
    obtain ⟨hs, hn⟩ := code_parse hp
    by_cases h0 : n < 0 ∨ 4096 < n
    · rw [if_pos h0, if_pos h0]
    · rw [if_neg h0, if_neg h0]
      unfold finC finCR
      cases hr : creads n.toNat zc zc t with
      | none =>
        cases hd : dreads n.toNat zc zc t with
        | none => rfl
        | some q =>
          obtain ⟨l, r⟩ := q
          rw [((dreads_iff _ _ _ _ _ _).1 hd).1] at hr
          cases hr
      | some q =>
        obtain ⟨l, r⟩ := q
        obtain ⟨e1, e2, e3⟩ := creads_some hr
        have hnl : n = (l.length : Int) := by omega
        have hi : bitsOf bs = cbits l ++ r := by
          rw [hs, e1]; unfold cbits; rw [hnl, List.append_assoc]
        have hp := padded_iff hb hi
        by_cases hall : ∀ c ∈ l, okC c
        · rw [(dreads_iff _ _ _ _ _ _).2 ⟨hr, hall⟩]
          have hE : encE l = 0 := by unfold encE; rw [if_neg (by omega), if_pos hall]
          have hB : encB l = pack (cbits l) := by unfold encB; rw [if_pos hE]
          simp only
          by_cases hq : padded r
          · rw [if_pos hq, if_pos ⟨hE, by rw [hB]; exact hp.1 hq⟩]
          · rw [if_neg hq, if_neg (fun h => hq (hp.2 (by rw [← hB]; exact h.2)))]
        · have hE : encE l ≠ 0 := by unfold encE; rw [if_neg (by omega), if_neg hall]; decide
          have hd : dreads n.toNat zc zc t = none := by
            cases hd : dreads n.toNat zc zc t with
            | none => rfl
            | some q =>
              obtain ⟨l', r'⟩ := q
              obtain ⟨h1, h2⟩ := (dreads_iff _ _ _ _ _ _).1 hd
              rw [hr] at h1
              simp only [Option.some.injEq, Prod.mk.injEq] at h1
              obtain ⟨rfl, rfl⟩ := h1
              exact absurd h2 hall
          rw [hd]
          simp only
          rw [if_neg (fun h => hE h.1)]
theorem decode_some {bs : List Nat} {l : List Clm} (hb : Bytes bs) (h : decode bs = some l) : (∀ c ∈ l, okC c) ∧ l.length ≤ 4096 ∧ pack (cbits l) = bs := by
  rw [decode_eq_ref bs hb] at h
  unfold refDecode at h
  split at h
  · cases h
  rename_i n t hp
  split at h
  · cases h
  unfold finCR at h
  split at h
  · cases h
  rename_i l' r hr
  split at h
  · rename_i hE
    simp only [Option.some.injEq] at h
    subst h
    have h1 := hE.1
    have h2 := hE.2
    unfold encB at h2
    rw [if_pos h1] at h2
    unfold encE at h1
    split at h1
    · omega
    · rename_i hlen
      split at h1
      · rename_i hall
        exact ⟨hall, by omega, h2⟩
      · omega
  · cases h
theorem decode_enc (l : List Clm) (h : ∀ c ∈ l, okC c) (hl : l.length ≤ 4096) : decode (pack (cbits l)) = some l := by
  unfold decode
  rw [bitsOf_pack, cbits, List.append_assoc, parse_code (by unfold I64; omega)]
  simp only
  rw [if_neg (by omega), Int.toNat_natCast]
  unfold finC
  rw [(dreads_iff _ _ _ _ _ _).2 ⟨creads_claims l zc zc h _, h⟩]
  simp only
  rw [if_pos]
  unfold padded pad
  exact ⟨by rw [List.length_replicate]; omega, fun b hb => List.eq_of_mem_replicate hb⟩
theorem pack_cbits_inj {l m : List Clm} (h : ∀ c ∈ l, okC c) (hl : l.length ≤ 4096) (k : ∀ c ∈ m, okC c) (hm : m.length ≤ 4096) (e : pack (cbits l) = pack (cbits m)) : l = m := by
  have h1 := decode_enc l h hl
  rw [e, decode_enc m k hm] at h1
  exact (Option.some.inj h1).symm
theorem cnums_length (b a : Clm) (l : List Clm) : (cnums b a l).length = 4 * l.length := by
  induction l generalizing b a with
  | nil => rfl
  | cons c l ih => simp only [cnums, List.length_append, ih, List.length_cons]; simp [c4]; omega
theorem cbits_length (l : List Clm) : (cbits l).length ≤ 70 + 280 * l.length := by
  unfold cbits
  have h1 := code_len_le l.length
  have h2 := codes_len (cnums zc zc l)
  rw [cnums_length] at h2
  rw [List.length_append]
  omega
end Go.Proofs.YtgajmhpnilkmiaaDoor.Pl
namespace Go.Proofs.YtgajmhpnilkmiaaDoor
open Go.RowKit Pl

def cells4 (c : Clm) : List Value := [.int .i64 c.1, .int .i64 c.2.1, .int .i64 c.2.2.1, .int .i64 c.2.2.2]
def vc (c : Clm) : Value := .agg (cells4 c).toArray
def flat (cs : List Clm) : List Value := cs.flatMap cells4
theorem flat_length (cs : List Clm) : (flat cs).length = cs.length * 4 := by
  induction cs with
  | nil => rfl
  | cons c cs ih => unfold flat at *; rw [List.flatMap_cons, List.length_append, ih, List.length_cons]; simp [cells4]; omega
theorem flat_append (cs ds : List Clm) : flat (cs ++ ds) = flat cs ++ flat ds := by unfold flat; rw [List.flatMap_append]
theorem flat_one (c : Clm) : flat [c] = cells4 c := by simp [flat]
theorem flat_at {cs : List Clm} {j k : Nat} (hj : j < cs.length) (hk : k < 4) : (flat cs)[j * 4 + k]? = (cells4 (cs.getD j zc))[k]? := by
  induction cs generalizing j with
  | nil => simp at hj
  | cons c cs ih =>
    unfold flat at *
    rw [List.flatMap_cons]
    cases j with
    | zero =>
      rw [List.getElem?_append_left (by simp [cells4]; omega)]
      simp
    | succ j =>
      rw [List.getElem?_append_right (by simp [cells4]; omega)]
      have : (j + 1) * 4 + k - (cells4 c).length = j * 4 + k := by simp [cells4]; omega
      rw [this, ih (by simpa using hj)]
      simp

def RdC (w : World) (B : Nat) (v : Value) (cs : List Clm) : Prop :=
  ∃ A c, v = .slice A cs.length c ∧ cs.length ≤ c ∧ (0 < cs.length → ∃ b o, A = some ⟨b, o, none⟩ ∧ b < B ∧ ∀ j u, (flat cs)[j]? = some u → w.cell? ⟨b, o + j, none⟩ = some u)
section
variable {w w' : World} {B B' : Nat} {v : Value} {cs : List Clm} {S : Nat → Prop}
theorem RdC.keep (h : RdC w B v cs) (hB : B ≤ w.heap.size) (hk : Keeps S w w') (hs : ∀ i, i < B → ¬ S i) : RdC w' B v cs := by
  obtain ⟨A, c, hv, hc, hx⟩ := h
  refine ⟨A, c, hv, hc, fun hn => ?_⟩
  obtain ⟨b, o, e, hb, hcell⟩ := hx hn
  exact ⟨b, o, e, hb, fun j u hu => (World.cell?_of_block (a := ⟨b, o + j, none⟩) (hk.block b (by omega) (hs _ hb))).trans (hcell j u hu)⟩
theorem RdC.grew (h : RdC w B v cs) (hB : B ≤ w.heap.size) (hk : Grew w w') : RdC w' B v cs := h.keep hB hk fun _ _ e => e
theorem RdC.more (h : RdC w B v cs) (hB : B ≤ B') : RdC w B' v cs := by
  obtain ⟨A, c, hv, hc, hx⟩ := h
  refine ⟨A, c, hv, hc, fun hn => ?_⟩
  obtain ⟨b, o, e, hb, hcell⟩ := hx hn
  exact ⟨b, o, e, by omega, hcell⟩
theorem RdC.form (h : RdC w B v cs) : ∃ A n c, v = .slice A n c ∧ n = cs.length ∧ n ≤ c := by
  obtain ⟨A, c, rfl, hc, _⟩ := h
  exact ⟨A, _, c, rfl, rfl, hc⟩
theorem RdC.nil (w : World) (B : Nat) : RdC w B (.slice none 0 0) [] := ⟨none, 0, rfl, Nat.le_refl _, fun h => absurd h (by simp)⟩
/- the four cells of an element -/
theorem RdC.at_ {A : Option Addr} {n c j : Nat} (h : RdC w B (.slice A n c) cs) (hj : j < cs.length) :
    ∃ b o, A = some ⟨b, o, none⟩ ∧ b < B ∧ ∀ k u, (cells4 (cs.getD j zc))[k]? = some u → w.cell? ⟨b, o + (j * 4 + k), none⟩ = some u := by
  obtain ⟨A', c', hv, _, hx⟩ := h
  injection hv with hA
  subst hA
  obtain ⟨b, o, rfl, hb, hc⟩ := hx (by omega)
  refine ⟨b, o, rfl, hb, fun k u hu => ?_⟩
  have hk : k < 4 := by simpa [cells4] using (List.getElem?_eq_some_iff.1 hu).1
  exact hc _ u (by rw [flat_at hj hk]; exact hu)
end
end Go.Proofs.YtgajmhpnilkmiaaDoor
