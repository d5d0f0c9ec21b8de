/- The plain law of the claims' codec: what encoding and decoding compute, that they undo each other, and that the reference computes the same. Rows of claims, four cells each: a row of the call's own; a slice that reads as a list of claims. -/
import Derived.Test.YtggnifejlheebaaDoorCodecEnvelopeP06
import Derived.Test.YtggnifejlheebaaDoorCodecEnvelopeP14
namespace Go.Proofs.YtggnifejlheebaaDoor.Pl
open Go.RowKit

/- a claim: from, to, lo, hi -/
abbrev Clm := Int × Int × Int × Int
def zc : Clm := (0, 0, 0, 0)
def R40 (x : Int) : Prop := -1099511627776 ≤ x ∧ x ≤ 1099511627776
instance (x : Int) : Decidable (R40 x) := by unfold R40; infer_instance
def okC (c : Clm) : Prop := R40 c.1 ∧ R40 c.2.1 ∧ R40 c.2.2.1 ∧ R40 c.2.2.2
instance (c : Clm) : Decidable (okC c) := by unfold okC; infer_instance
theorem ok_zc : okC zc := by decide

/- the four numbers of a claim behind two others -/
def n0 (b a c : Clm) : Int := wrap64 (c.1 - 2 * a.1 + b.1)
def n1 (a c : Clm) : Int := wrap64 ((c.2.1 - c.1) - (a.2.1 - a.1))
def n2 (a c : Clm) : Int := wrap64 (c.2.2.1 - a.2.2.1)
def n3 (a c : Clm) : Int := wrap64 ((c.2.2.2 - c.2.2.1) - (a.2.2.2 - a.2.2.1))
def c4 (b a c : Clm) : List Int := [n0 b a c, n1 a c, n2 a c, n3 a c]
def cnums : Clm → Clm → List Clm → List Int
  | _, _, [] => []
  | b, a, c :: l => c4 b a c ++ cnums a c l
def cbits (l : List Clm) : List Bool := code l.length ++ codes (cnums zc zc l)
def encE (l : List Clm) : Int := if 4096 < l.length then 4 else if ∀ c ∈ l, okC c then 0 else 5
def encB (l : List Clm) : List Nat := if encE l = 0 then pack (cbits l) else []

/- the claim of four numbers behind two others -/
def nextC (b a : Clm) (d : Clm) : Clm :=
  (wrap64 (d.1 + 2 * a.1 - b.1),
   wrap64 (wrap64 (d.1 + 2 * a.1 - b.1) + d.2.1 + (a.2.1 - a.1)),
   wrap64 (d.2.2.1 + a.2.2.1),
   wrap64 (wrap64 (d.2.2.1 + a.2.2.1) + d.2.2.2 + (a.2.2.2 - a.2.2.1)))
theorem codes_append (l m : List Int) : codes (l ++ m) = codes l ++ codes m := by simp [codes]
theorem codes_one (x : Int) : codes [x] = code x := by simp [codes]
def parse4 (s : List Bool) : Option (Clm × List Bool) :=
  match parse s with
  | none => none
  | some (d0, s0) =>
    match parse s0 with
    | none => none
    | some (d1, s1) =>
      match parse s1 with
      | none => none
      | some (d2, s2) =>
        match parse s2 with
        | none => none
        | some (d3, s3) => some ((d0, d1, d2, d3), s3)
def l4 (d : Clm) : List Int := [d.1, d.2.1, d.2.2.1, d.2.2.2]
theorem parse4_some {s t : List Bool} {d : Clm} (h : parse4 s = some (d, t)) : s = codes (l4 d) ++ t ∧ I64 d.1 ∧ I64 d.2.1 ∧ I64 d.2.2.1 ∧ I64 d.2.2.2 ∧ t.length + 4 ≤ s.length := by
  unfold parse4 at h
  split at h
  · cases h
  rename_i d0 s0 h0
  split at h
  · cases h
  rename_i d1 s1 h1
  split at h
  · cases h
  rename_i d2 s2 h2
  split at h
  · cases h
  rename_i d3 s3 h3
  simp only [Option.some.injEq, Prod.mk.injEq] at h
  obtain ⟨rfl, rfl⟩ := h
  obtain ⟨e0, i0⟩ := code_parse h0
  obtain ⟨e1, i1⟩ := code_parse h1
  obtain ⟨e2, i2⟩ := code_parse h2
  obtain ⟨e3, i3⟩ := code_parse h3
  have l0 := parse_length h0
  have l1 := parse_length h1
  have l2 := parse_length h2
  have l3 := parse_length h3
  refine ⟨?_, i0, i1, i2, i3, by omega⟩
  rw [e0, e1, e2, e3]
  simp [codes, l4]
theorem parse4_codes {d : Clm} (h0 : I64 d.1) (h1 : I64 d.2.1) (h2 : I64 d.2.2.1) (h3 : I64 d.2.2.2) (t : List Bool) : parse4 (codes (l4 d) ++ t) = some (d, t) := by
  unfold parse4 l4
  have e : codes [d.1, d.2.1, d.2.2.1, d.2.2.2] ++ t = code d.1 ++ (code d.2.1 ++ (code d.2.2.1 ++ (code d.2.2.2 ++ t))) := by simp [codes]
  rw [e]
  simp only [parse_code h0, parse_code h1, parse_code h2, parse_code h3]

/- so many claims read; 'dreads' stops at a claim out of range -/
def creads : Nat → Clm → Clm → List Bool → Option (List Clm × List Bool)
  | 0, _, _, s => some ([], s)
  | k + 1, b, a, s =>
    match parse4 s with
    | none => none
    | some (d, t) => (creads k a (nextC b a d) t).map fun p => (nextC b a d :: p.1, p.2)
def dreads : Nat → Clm → Clm → List Bool → Option (List Clm × List Bool)
  | 0, _, _, s => some ([], s)
  | k + 1, b, a, s =>
    match parse4 s with
    | none => none
    | some (d, t) => if okC (nextC b a d) then (dreads k a (nextC b a d) t).map fun p => (nextC b a d :: p.1, p.2) else none
def finC (N : Nat) (t : List Bool) : Option (List Clm) :=
  match dreads N zc zc t with
  | none => none
  | some (l, r) => if padded r then some l else none
def decode (bs : List Nat) : Option (List Clm) :=
  match parse (bitsOf bs) with
  | none => none
  | some (n, t) => if n < 0 ∨ 4096 < n then none else finC n.toNat t
def finCR (bs : List Nat) (N : Nat) (t : List Bool) : Option (List Clm) :=
  match creads N zc zc t with
  | none => none
  | some (l, _) => if encE l = 0 ∧ encB l = bs then some l else none
def refDecode (bs : List Nat) : Option (List Clm) :=
  match parse (bitsOf bs) with
  | none => none
  | some (n, t) => if n < 0 ∨ 4096 < n then none else finCR bs n.toNat t

theorem dreads_iff (k : Nat) (b a : Clm) (s : List Bool) (l : List Clm) (r : List Bool) : dreads k b a s = some (l, r) ↔ creads k b a s = some (l, r) ∧ ∀ c ∈ l, okC c := by
  induction k generalizing b a s l r with
  | zero =>
    simp only [dreads, creads, Option.some.injEq, Prod.mk.injEq]
    constructor
    · rintro ⟨rfl, rfl⟩; simp
    · rintro ⟨⟨rfl, rfl⟩, _⟩; simp
  | succ k ih =>
    simp only [dreads, creads]
    split
    · simp
    · rename_i d t hp
      by_cases hok : okC (nextC b a d)
      · rw [if_pos hok]
        simp only [Option.map_eq_some_iff]
        constructor
        · rintro ⟨⟨l', r'⟩, h1, h2⟩
          simp only [Prod.mk.injEq] at h2
          obtain ⟨rfl, rfl⟩ := h2
          obtain ⟨h3, h4⟩ := (ih _ _ _ _ _).1 h1
          refine ⟨⟨_, h3, rfl⟩, fun c hc => ?_⟩
          rcases List.mem_cons.1 hc with rfl | hc
          · exact hok
          · exact h4 c hc
        · rintro ⟨⟨⟨l', r'⟩, h1, h2⟩, h4⟩
          simp only [Prod.mk.injEq] at h2
          obtain ⟨rfl, rfl⟩ := h2
          exact ⟨_, (ih _ _ _ _ _).2 ⟨h1, fun c hc => h4 c (by simp [hc])⟩, rfl⟩
      · rw [if_neg hok]
        constructor
        · intro h; cases h
        · rintro ⟨h1, h4⟩
          simp only [Option.map_eq_some_iff] at h1
          obtain ⟨⟨l', r'⟩, h1, h2⟩ := h1
          simp only [Prod.mk.injEq] at h2
          obtain ⟨rfl, rfl⟩ := h2
          exact absurd (h4 _ (by simp)) hok

/- the numbers of the claim that numbers made are those numbers -/
theorem c4_next {b a d : Clm} (h0 : I64 d.1) (h1 : I64 d.2.1) (h2 : I64 d.2.2.1) (h3 : I64 d.2.2.2) : c4 b a (nextC b a d) = l4 d := by
  unfold c4 l4 n0 n1 n2 n3 nextC
  simp only
  have e0 : wrap64 (wrap64 (d.1 + 2 * a.1 - b.1) - 2 * a.1 + b.1) = d.1 := by
    rw [show d.1 = wrap64 d.1 from (wrap_of h0).symm]; unfold wrap64; omega
  have e1 : wrap64 (wrap64 (wrap64 (d.1 + 2 * a.1 - b.1) + d.2.1 + (a.2.1 - a.1)) - wrap64 (d.1 + 2 * a.1 - b.1) - (a.2.1 - a.1)) = d.2.1 := by
    rw [show d.2.1 = wrap64 d.2.1 from (wrap_of h1).symm]; generalize wrap64 (d.1 + 2 * a.1 - b.1) = x; unfold wrap64; omega
  have e2 : wrap64 (wrap64 (d.2.2.1 + a.2.2.1) - a.2.2.1) = d.2.2.1 := by
    rw [show d.2.2.1 = wrap64 d.2.2.1 from (wrap_of h2).symm]; unfold wrap64; omega
  have e3 : wrap64 (wrap64 (wrap64 (d.2.2.1 + a.2.2.1) + d.2.2.2 + (a.2.2.2 - a.2.2.1)) - wrap64 (d.2.2.1 + a.2.2.1) - (a.2.2.2 - a.2.2.1)) = d.2.2.2 := by
    rw [show d.2.2.2 = wrap64 d.2.2.2 from (wrap_of h3).symm]; generalize wrap64 (d.2.2.1 + a.2.2.1) = x; unfold wrap64; omega
  rw [e0, e1, e2, e3]
/- the claim of its own numbers -/
theorem next_c4 (b a c : Clm) (h : I64 c.1 ∧ I64 c.2.1 ∧ I64 c.2.2.1 ∧ I64 c.2.2.2) : nextC b a (n0 b a c, n1 a c, n2 a c, n3 a c) = c := by
  obtain ⟨h0, h1, h2, h3⟩ := h
  unfold nextC n0 n1 n2 n3
  simp only
  have e0 : wrap64 (wrap64 (c.1 - 2 * a.1 + b.1) + 2 * a.1 - b.1) = c.1 := by
    rw [show c.1 = wrap64 c.1 from (wrap_of h0).symm]; unfold wrap64; omega
  have e2 : wrap64 (wrap64 (c.2.2.1 - a.2.2.1) + a.2.2.1) = c.2.2.1 := by
    rw [show c.2.2.1 = wrap64 c.2.2.1 from (wrap_of h2).symm]; unfold wrap64; omega
  rw [e0, e2]
  have e1 : wrap64 (c.1 + wrap64 (c.2.1 - c.1 - (a.2.1 - a.1)) + (a.2.1 - a.1)) = c.2.1 := by
    rw [show c.2.1 = wrap64 c.2.1 from (wrap_of h1).symm]; unfold wrap64; omega
  have e3 : wrap64 (c.2.2.1 + wrap64 (c.2.2.2 - c.2.2.1 - (a.2.2.2 - a.2.2.1)) + (a.2.2.2 - a.2.2.1)) = c.2.2.2 := by
    rw [show c.2.2.2 = wrap64 c.2.2.2 from (wrap_of h3).symm]; unfold wrap64; omega
  rw [e1, e3]
theorem ok_i64 {c : Clm} (h : okC c) : I64 c.1 ∧ I64 c.2.1 ∧ I64 c.2.2.1 ∧ I64 c.2.2.2 := by
  unfold okC R40 at h
  unfold I64
  omega

theorem creads_some {k : Nat} {b a : Clm} {s : List Bool} {l : List Clm} {r : List Bool} (h : creads k b a s = some (l, r)) :
    s = codes (cnums b a l) ++ r ∧ l.length = k ∧ 4 * k + r.length ≤ s.length := by
  induction k generalizing b a s l r with
  | zero =>
    simp only [creads, Option.some.injEq, Prod.mk.injEq] at h
    obtain ⟨rfl, rfl⟩ := h
    simp [cnums, codes]
  | succ k ih =>
    simp only [creads] at h
    split at h
    · simp at h
    · rename_i d t hp
      simp only [Option.map_eq_some_iff] at h
      obtain ⟨⟨l', r'⟩, hr, he⟩ := h
      simp only [Prod.mk.injEq] at he
      obtain ⟨rfl, rfl⟩ := he
      obtain ⟨e1, e2, e3⟩ := ih hr
      obtain ⟨hs, i0, i1, i2, i3, hl⟩ := parse4_some hp
      refine ⟨?_, by simp [e2], by omega⟩
      rw [hs, e1]
      simp only [cnums, c4_next i0 i1 i2 i3, codes_append, List.append_assoc]
theorem creads_claims (l : List Clm) (b a : Clm) (h : ∀ c ∈ l, okC c) (r : List Bool) : creads l.length b a (codes (cnums b a l) ++ r) = some (l, r) := by
  induction l generalizing b a with
  | nil => simp [creads, cnums, codes]
  | cons c l ih =>
    have hc := ok_i64 (h c (by simp))
    have e : codes (cnums b a (c :: l)) ++ r = codes (l4 (n0 b a c, n1 a c, n2 a c, n3 a c)) ++ (codes (cnums a c l) ++ r) := by
      simp only [cnums, codes_append, List.append_assoc]; rfl
    rw [e, List.length_cons]
    simp only [creads]
    rw [parse4_codes (wrap_I64 _) (wrap_I64 _) (wrap_I64 _) (wrap_I64 _)]
    simp only [next_c4 b a c hc]
    rw [ih a c (fun x hx => h x (by simp [hx]))]; rfl

theorem decode_eq_ref (bs : List Nat) (hb : Bytes bs) : decode bs = refDecode bs := by
  unfold decode refDecode
  cases hp : parse (bitsOf bs) with
  | none => rfl
  | some p =>
    obtain ⟨n, t⟩ := p
    simp only
    obtain ⟨hs, hn⟩ := code_parse hp
    by_cases h0 : n < 0 ∨ 4096 < n
    · rw [if_pos h0, if_pos h0]
    · rw [if_neg h0, if_neg h0]
      unfold finC finCR
      cases hr : creads n.toNat zc zc t with
      | none =>
        cases hd : dreads n.toNat zc zc t with
        | none => rfl
        | some q =>
          obtain ⟨l, r⟩ := q
          rw [((dreads_iff _ _ _ _ _ _).1 hd).1] at hr
          cases hr
      | some q =>
        obtain ⟨l, r⟩ := q
        obtain ⟨e1, e2, e3⟩ := creads_some hr
        have hnl : n = (l.length : Int) := by omega
        have hi : bitsOf bs = cbits l ++ r := by
          rw [hs, e1]; unfold cbits; rw [hnl, List.append_assoc]
        have hp := padded_iff hb hi
        by_cases hall : ∀ c ∈ l, okC c
        · rw [(dreads_iff _ _ _ _ _ _).2 ⟨hr, hall⟩]
          have hE : encE l = 0 := by unfold encE; rw [if_neg (by omega), if_pos hall]
          have hB : encB l = pack (cbits l) := by unfold encB; rw [if_pos hE]
          simp only
          by_cases hq : padded r
          · rw [if_pos hq, if_pos ⟨hE, by rw [hB]; exact hp.1 hq⟩]
          · rw [if_neg hq, if_neg (fun h => hq (hp.2 (by rw [← hB]; exact h.2)))]
        · have hE : encE l ≠ 0 := by unfold encE; rw [if_neg (by omega), if_neg hall]; decide
          have hd : dreads n.toNat zc zc t = none := by
            cases hd : dreads n.toNat zc zc t with
            | none => rfl
            | some q =>
              obtain ⟨l', r'⟩ := q
              obtain ⟨h1, h2⟩ := (dreads_iff _ _ _ _ _ _).1 hd
              rw [hr] at h1
              simp only [Option.some.injEq, Prod.mk.injEq] at h1
              obtain ⟨rfl, rfl⟩ := h1
              exact absurd h2 hall
          rw [hd]
          simp only
          rw [if_neg (fun h => hE h.1)]
theorem decode_some {bs : List Nat} {l : List Clm} (hb : Bytes bs) (h : decode bs = some l) : (∀ c ∈ l, okC c) ∧ l.length ≤ 4096 ∧ pack (cbits l) = bs := by
  rw [decode_eq_ref bs hb] at h
  unfold refDecode at h
  split at h
  · cases h
  rename_i n t hp
  split at h
  · cases h
  unfold finCR at h
  split at h
  · cases h
  rename_i l' r hr
  split at h
  · rename_i hE
    simp only [Option.some.injEq] at h
    subst h
    have h1 := hE.1
    have h2 := hE.2
    unfold encB at h2
    rw [if_pos h1] at h2
    unfold encE at h1
    split at h1
    · omega
    · rename_i hlen
      split at h1
      · rename_i hall
        exact ⟨hall, by omega, h2⟩
      · omega
  · cases h
theorem decode_enc (l : List Clm) (h : ∀ c ∈ l, okC c) (hl : l.length ≤ 4096) : decode (pack (cbits l)) = some l := by
  unfold decode
  rw [bitsOf_pack, cbits, List.append_assoc, parse_code (by unfold I64; omega)]
  simp only
  rw [if_neg (by omega), Int.toNat_natCast]
  unfold finC
  rw [(dreads_iff _ _ _ _ _ _).2 ⟨creads_claims l zc zc h _, h⟩]
  simp only
  rw [if_pos]
  unfold padded pad
  exact ⟨by rw [List.length_replicate]; omega, fun b hb => List.eq_of_mem_replicate hb⟩
theorem pack_cbits_inj {l m : List Clm} (h : ∀ c ∈ l, okC c) (hl : l.length ≤ 4096) (k : ∀ c ∈ m, okC c) (hm : m.length ≤ 4096) (e : pack (cbits l) = pack (cbits m)) : l = m := by
  have h1 := decode_enc l h hl
  rw [e, decode_enc m k hm] at h1
  exact (Option.some.inj h1).symm
theorem cnums_length (b a : Clm) (l : List Clm) : (cnums b a l).length = 4 * l.length := by
  induction l generalizing b a with
  | nil => rfl
  | cons c l ih => simp only [cnums, List.length_append, ih, List.length_cons]; simp [c4]; omega
theorem cbits_length (l : List Clm) : (cbits l).length ≤ 70 + 280 * l.length := by
  unfold cbits
  have h1 := code_len_le l.length
  have h2 := codes_len (cnums zc zc l)
  rw [cnums_length] at h2
  rw [List.length_append]
  omega
end Go.Proofs.YtggnifejlheebaaDoor.Pl
namespace Go.Proofs.YtggnifejlheebaaDoor
open Go.RowKit Pl

def cells4 (c : Clm) : List Value := [.int .i64 c.1, .int .i64 c.2.1, .int .i64 c.2.2.1, .int .i64 c.2.2.2]
def vc (c : Clm) : Value := .agg (cells4 c).toArray
def flat (cs : List Clm) : List Value := cs.flatMap cells4
theorem flat_length (cs : List Clm) : (flat cs).length = cs.length * 4 := by
  induction cs with
  | nil => rfl
  | cons c cs ih => unfold flat at *; rw [List.flatMap_cons, List.length_append, ih, List.length_cons]; simp [cells4]; omega
theorem flat_append (cs ds : List Clm) : flat (cs ++ ds) = flat cs ++ flat ds := by unfold flat; rw [List.flatMap_append]
theorem flat_one (c : Clm) : flat [c] = cells4 c := by simp [flat]
theorem flat_at {cs : List Clm} {j k : Nat} (hj : j < cs.length) (hk : k < 4) : (flat cs)[j * 4 + k]? = (cells4 (cs.getD j zc))[k]? := by
  induction cs generalizing j with
  | nil => simp at hj
  | cons c cs ih =>
    unfold flat at *
    rw [List.flatMap_cons]
    cases j with
    | zero =>
      rw [List.getElem?_append_left (by simp [cells4]; omega)]
      simp
    | succ j =>
      rw [List.getElem?_append_right (by simp [cells4]; omega)]
      have : (j + 1) * 4 + k - (cells4 c).length = j * 4 + k := by simp [cells4]; omega
      rw [this, ih (by simpa using hj)]
      simp

def RdC (w : World) (B : Nat) (v : Value) (cs : List Clm) : Prop :=
  ∃ A c, v = .slice A cs.length c ∧ cs.length ≤ c ∧ (0 < cs.length → ∃ b o, A = some ⟨b, o, none⟩ ∧ b < B ∧ ∀ j u, (flat cs)[j]? = some u → w.cell? ⟨b, o + j, none⟩ = some u)
section
variable {w w' : World} {B B' : Nat} {v : Value} {cs : List Clm} {S : Nat → Prop}
theorem RdC.keep (h : RdC w B v cs) (hB : B ≤ w.heap.size) (hk : Keeps S w w') (hs : ∀ i, i < B → ¬ S i) : RdC w' B v cs := by
  obtain ⟨A, c, hv, hc, hx⟩ := h
  refine ⟨A, c, hv, hc, fun hn => ?_⟩
  obtain ⟨b, o, e, hb, hcell⟩ := hx hn
  exact ⟨b, o, e, hb, fun j u hu => (World.cell?_of_block (a := ⟨b, o + j, none⟩) (hk.block b (by omega) (hs _ hb))).trans (hcell j u hu)⟩
theorem RdC.grew (h : RdC w B v cs) (hB : B ≤ w.heap.size) (hk : Grew w w') : RdC w' B v cs := h.keep hB hk fun _ _ e => e
theorem RdC.more (h : RdC w B v cs) (hB : B ≤ B') : RdC w B' v cs := by
  obtain ⟨A, c, hv, hc, hx⟩ := h
  refine ⟨A, c, hv, hc, fun hn => ?_⟩
  obtain ⟨b, o, e, hb, hcell⟩ := hx hn
  exact ⟨b, o, e, by omega, hcell⟩
theorem RdC.form (h : RdC w B v cs) : ∃ A n c, v = .slice A n c ∧ n = cs.length ∧ n ≤ c := by
  obtain ⟨A, c, rfl, hc, _⟩ := h
  exact ⟨A, _, c, rfl, rfl, hc⟩
theorem RdC.nil (w : World) (B : Nat) : RdC w B (.slice none 0 0) [] := ⟨none, 0, rfl, Nat.le_refl _, fun h => absurd h (by simp)⟩
/- the four cells of an element -/
theorem RdC.at_ {A : Option Addr} {n c j : Nat} (h : RdC w B (.slice A n c) cs) (hj : j < cs.length) :
    ∃ b o, A = some ⟨b, o, none⟩ ∧ b < B ∧ ∀ k u, (cells4 (cs.getD j zc))[k]? = some u → w.cell? ⟨b, o + (j * 4 + k), none⟩ = some u := by
  obtain ⟨A', c', hv, _, hx⟩ := h
  injection hv with hA
  subst hA
  obtain ⟨b, o, rfl, hb, hc⟩ := hx (by omega)
  refine ⟨b, o, rfl, hb, fun k u hu => ?_⟩
  have hk : k < 4 := by simpa [cells4] using (List.getElem?_eq_some_iff.1 hu).1
  exact hc _ u (by rw [flat_at hj hk]; exact hu)
end
end Go.Proofs.YtggnifejlheebaaDoor
