/- codec.Dict: words and indices. SameTexts; turned; the examples of the chapter. The examples of the chapter hold. The plain law of the claims' codec: what encoding and decoding compute, that they undo each other, and that the reference computes the same. -/
import Derived.Test.YtgkmfblmkfclbaaGreatDoorBlockSoundP08
import Derived.Maps.Own
import Derived.Maps.OwnOps
import Derived.Maps.OwnSet
import Derived.Maps.Views
import Derived.Test.YtgkmfblmkfclbaaGreatDoorBlockSoundP04
namespace Go.Proofs.YtgkmfblmkfclbaaGreatDoor
open Go.RowKit Pl Go.Maps

abbrev Str := List UInt8
def vs (s : Str) : Value := .string ⟨s.toArray⟩
theorem slStr : SlT Tryz.prog 52 9 16 (.string ByteArray.empty) := ⟨Tryz.underlying52, by kernel_rfl, rfl, by decide⟩

/- the words of a list, in the order of their first places -/
def addW (ws : List Str) (s : Str) : List Str := if s ∈ ws then ws else ws ++ [s]
def dwords (l : List Str) : List Str := l.foldl addW []
def didx (l : List Str) : List Int := l.map fun s => (((dwords l).idxOf s : Nat) : Int)
theorem dwords_snoc (l : List Str) (s : Str) : dwords (l ++ [s]) = addW (dwords l) s := by simp [dwords, List.foldl_append]
theorem mem_addW (ws : List Str) (s x : Str) : x ∈ addW ws s ↔ x ∈ ws ∨ x = s := by
  unfold addW
  split
  · constructor
    · exact .inl
    · rintro (h | rfl)
      · exact h
      · assumption
  · simp
theorem mem_dwords_aux (l : List Str) (ws : List Str) (x : Str) : x ∈ l.foldl addW ws ↔ x ∈ ws ∨ x ∈ l := by
  induction l generalizing ws with
  | nil => simp
  | cons s l ih => rw [List.foldl_cons, ih, mem_addW, List.mem_cons, or_assoc]
theorem mem_dwords (l : List Str) (x : Str) : x ∈ dwords l ↔ x ∈ l := by unfold dwords; rw [mem_dwords_aux]; simp
theorem idxOf_addW {ws : List Str} {s x : Str} (h : x ∈ ws) : (addW ws s).idxOf x = ws.idxOf x := by
  unfold addW
  split
  · rfl
  · rw [List.idxOf_append, if_pos h]
theorem didx_snoc (l : List Str) (s : Str) : didx (l ++ [s]) = didx l ++ [(((addW (dwords l) s).idxOf s : Nat) : Int)] := by
  unfold didx
  rw [List.map_append, dwords_snoc]
  congr 1
  apply List.map_congr_left
  intro x hx
  rw [idxOf_addW ((mem_dwords l x).2 hx)]
theorem dwords_length_le (l : List Str) : (dwords l).length ≤ l.length := by
  have aux : ∀ (l ws : List Str), (l.foldl addW ws).length ≤ ws.length + l.length := by
    intro l
    induction l with
    | nil => intro ws; simp
    | cons s l ih =>
      intro ws
      rw [List.foldl_cons, List.length_cons]
      have h1 := ih (addW ws s)
      have h2 : (addW ws s).length ≤ ws.length + 1 := by unfold addW; split <;> simp
      omega
  have := aux l []
  simpa [dwords] using this
theorem idxOf_new {ws : List Str} {s : Str} (h : ¬ s ∈ ws) : (addW ws s).idxOf s = ws.length := by
  unfold addW
  rw [if_neg h, List.idxOf_append, if_neg h]; simp

/- the map that Dict keeps -/
def DMap (D : DataW Unit) (ws : List Str) : Prop :=
  IsMap D ∧ ∀ s : Str, Maps.has D (.string s) = decide (s ∈ ws) ∧ (s ∈ ws → ∀ z, D.atKey (.string s) z = .lit (.int .i64 ((ws.idxOf s : Nat) : Int)))
theorem DMap.empty : DMap (.map []) [] := ⟨isMap_empty, fun s => ⟨rfl, fun h => by simp at h⟩⟩
theorem bytes_ne {s x : Str} (h : x ≠ s) : (Lit.string x) ≠ .string s := by
  intro e
  injection e with e
  exact h e
theorem DMap.put {D : DataW Unit} {ws : List Str} (h : DMap D ws) {s : Str} (hs : ¬ s ∈ ws) : DMap (D.put (.string s) (.lit (.int .i64 (ws.length : Nat)))) (ws ++ [s]) := by
  refine ⟨h.1.put _ _, fun x => ?_⟩
  by_cases e : x = s
  · subst e
    refine ⟨?_, fun _ z => ?_⟩
    · rw [has_put_same h.1 (by trivial)]; simp
    · rw [atKey_put_same h.1 (by trivial), List.idxOf_append, if_neg hs]; simp
  · refine ⟨?_, fun hx z => ?_⟩
    · rw [has_put_other (bytes_ne e), (h.2 x).1]; simp [e]
    · have hx' : x ∈ ws := by simpa [e] using hx
      rw [atKey_put_other (bytes_ne e), (h.2 x).2 hx' z, List.idxOf_append, if_pos hx']
theorem strKeyed : Keyed Tryz.prog 9 := string_keyed Tryz.underlying9
theorem zeroInt (w : World) : (zeroValue 3).run Tryz.prog w = .ok (.int .i64 0) w := by kernel_rfl

theorem Rd.str_at {w : World} {B : Nat} {A : Option Addr} {n c j : Nat} {l : List Str} (h : Rd w B (.slice A n c) (l.map vs)) (hj : j < l.length) : ∃ ad, A = some ad ∧ ad.block < B ∧ w.cell? (ad.add j) = some (.string ⟨(l.getD j []).toArray⟩) := by
  obtain ⟨ad, u, rfl, hadb, hu, hcell⟩ := h.at_ (j := j) (by rw [List.length_map]; exact hj)
  refine ⟨ad, rfl, hadb, ?_⟩
  rw [List.getElem?_map, List.getElem?_eq_getElem hj] at hu
  rw [hcell, ← Option.some.inj hu, List.getD_eq_getElem?_getD, List.getElem?_eq_getElem hj]; rfl
/- a map's block is none of cells -/
theorem Mine.ne_map {w : World} {base : Nat} {e : TypeId} {v : Value} {xs : List Value} {k b n : Nat} {P : Program} {t : TypeId} {R : Value → Option (DataW Unit × List MemPlace)} {D : DataW Unit} (h : Mine w base e v xs) (hv : v.ownBlock = some k) (hb : w.ownsMap P t R b n D) : k ≠ b := by
  rcases h.form with ⟨rfl, _⟩ | ⟨g', cap, cur, rfl, _, hbox, _⟩
  · cases hv
  · have : g' = k := by simpa [Value.ownBlock] using hv
    subst this
    rintro rfl
    obtain ⟨es, clock, h2, _⟩ := hb
    unfold Box at hbox
    rw [hbox] at h2
    cases h2
theorem ownsMap_keep {w w' : World} {S : Nat → Prop} {P : Program} {t : TypeId} {R : Value → Option (DataW Unit × List MemPlace)} {b n : Nat} {D : DataW Unit} (h : w.ownsMap P t R b n D) (hk : Keeps S w w') (hs : ¬ S b) : w'.ownsMap P t R b n D := by
  have hlt := h.lt
  obtain ⟨es, clock, h2, r⟩ := h
  exact ⟨es, clock, (hk.block b hlt hs).trans h2, r⟩
theorem Mine.mapped {w w' : World} {base : Nat} {e : TypeId} {v : Value} {xs : List Value} {b n : Nat} {P : Program} {t : TypeId} {R : Value → Option (DataW Unit × List MemPlace)} {D : DataW Unit} (h : Mine w base e v xs) (hb : w.ownsMap P t R b n D) (hg : w.grownBy w' (some b)) : Mine w' base e v xs :=
  h.keep (S := fun i => i = b) ((Keeps.refl _ w).grown hg (fun k e _ => by cases e; rfl)) (fun k hk e => by subst e; exact h.ne_map hk hb rfl)

theorem at_eq {D : DataW Unit} {k : Lit} {z : DataW Unit} {a b : Int} (h : D.atKey k z = .lit (.int .i64 a)) (h' : D.atKey k z = .lit (.int .i64 b)) : a = b := by
  rw [h] at h'
  injection h' with h'
  injection h'
def DictPost (l : List Str) (w : World) (e : Ending) (w' : World) : Prop :=
  ∃ v1 v2, e = .returned (.tuple #[v1, v2]) ∧ Mine w' w.heap.size 9 v1 ((dwords l).map vs) ∧ Mine w' w.heap.size 3 v2 ((didx l).map vi) ∧ Grew w w'

end Go.Proofs.YtgkmfblmkfclbaaGreatDoor
namespace Go.Proofs.YtgkmfblmkfclbaaGreatDoor
open Go.RowKit Pl

/- bytes with one of them replaced -/
def turn (bs : List Nat) (a : Int) (c : Nat) : List Nat := if bs = [] then [] else bs.set (arnd a bs.length) c
theorem turn_bytes {bs : List Nat} (h : Bytes bs) (a : Int) {c : Nat} (hc : c < 256) : Bytes (turn bs a c) := by
  unfold turn
  split
  · intro x hx; simp at hx
  · intro x hx
    rcases List.mem_or_eq_of_mem_set hx with hx | rfl
    · exact h x hx
    · exact hc
theorem turn_length (bs : List Nat) (a : Int) (c : Nat) : (turn bs a c).length = bs.length := by
  unfold turn
  split
  · rename_i h; simp [h]
  · simp
end Go.Proofs.YtgkmfblmkfclbaaGreatDoor
namespace Go.Proofs.YtgkmfblmkfclbaaGreatDoor
open Go.RowKit Pl

theorem Tab.more {w : World} {B B' : Nat} (h : Tab w B) (hB : B ≤ B') : Tab w B' := ⟨Nat.lt_of_lt_of_le h.1 hB, h.2⟩
theorem Tab.on {w w' : World} (h : Tab w w.heap.size) (hk : Grew w w') : Tab w' w'.heap.size := (h.grew hk).more hk.size
/- a row that was just laid -/
theorem Rd.laid (w : World) (t : TypeId) (xs : List Value) : Rd (w.alloc (.cells xs.toArray t)) (w.heap.size + 1) (.slice (some ⟨w.heap.size, 0, none⟩) xs.length xs.length) xs := by
  refine ⟨_, _, rfl, Nat.le_refl _, fun _ => ⟨_, rfl, by show w.heap.size < w.heap.size + 1; omega, fun j u hu => ?_⟩⟩
  have e1 : (⟨w.heap.size, 0, none⟩ : Addr).add j = ⟨w.heap.size, j, none⟩ := by unfold Addr.add; split <;> simp_all
  rw [e1, (Box.new w t xs.toArray).cell]
  simpa using hu
theorem ex_words : dwords [[98], [97], [98]] = [[98], [97]] := by decide
theorem ex_idx : didx [[98], [97], [98]] = [0, 1, 0] := by decide
theorem ex_read : readInts [154, 169, 64] = some [5, 7, 9] := by decide +kernel
theorem ex_nil : pack (ints []) = [0] := by decide +kernel
theorem ex_ints : pack (ints [5, 7, 9]) = [154, 169, 64] := by decide +kernel

end Go.Proofs.YtgkmfblmkfclbaaGreatDoor
namespace Go.Proofs.YtgkmfblmkfclbaaGreatDoor.Pl
open Go.RowKit

/- a claim: from, to, lo, hi -/
abbrev Clm := Int × Int × Int × Int
def zc : Clm := (0, 0, 0, 0)
def R40 (x : Int) : Prop := -1099511627776 ≤ x ∧ x ≤ 1099511627776
instance (x : Int) : Decidable (R40 x) := by unfold R40; infer_instance
def okC (c : Clm) : Prop := R40 c.1 ∧ R40 c.2.1 ∧ R40 c.2.2.1 ∧ R40 c.2.2.2
instance (c : Clm) : Decidable (okC c) := by unfold okC; infer_instance
theorem ok_zc : okC zc := by decide

/- the four numbers of a claim behind two others -/
def n0 (b a c : Clm) : Int := wrap64 (c.1 - 2 * a.1 + b.1)
def n1 (a c : Clm) : Int := wrap64 ((c.2.1 - c.1) - (a.2.1 - a.1))
def n2 (a c : Clm) : Int := wrap64 (c.2.2.1 - a.2.2.1)
def n3 (a c : Clm) : Int := wrap64 ((c.2.2.2 - c.2.2.1) - (a.2.2.2 - a.2.2.1))
def c4 (b a c : Clm) : List Int := [n0 b a c, n1 a c, n2 a c, n3 a c]
def cnums : Clm → Clm → List Clm → List Int
  | _, _, [] => []
  | b, a, c :: l => c4 b a c ++ cnums a c l
def cbits (l : List Clm) : List Bool := code l.length ++ codes (cnums zc zc l)
def encE (l : List Clm) : Int := if 4096 < l.length then 4 else if ∀ c ∈ l, okC c then 0 else 5
def encB (l : List Clm) : List Nat := if encE l = 0 then pack (cbits l) else []

/- the claim of four numbers behind two others -/
def nextC (b a : Clm) (d : Clm) : Clm :=
  (wrap64 (d.1 + 2 * a.1 - b.1),
   wrap64 (wrap64 (d.1 + 2 * a.1 - b.1) + d.2.1 + (a.2.1 - a.1)),
   wrap64 (d.2.2.1 + a.2.2.1),
   wrap64 (wrap64 (d.2.2.1 + a.2.2.1) + d.2.2.2 + (a.2.2.2 - a.2.2.1)))
theorem codes_append (l m : List Int) : codes (l ++ m) = codes l ++ codes m := by simp [codes]
theorem codes_one (x : Int) : codes [x] = code x := by simp [codes]
def parse4 (s : List Bool) : Option (Clm × List Bool) :=
  match parse s with
  | none => none
  | some (d0, s0) =>
    match parse s0 with
    | none => none
    | some (d1, s1) =>
      match parse s1 with
      | none => none
      | some (d2, s2) =>
        match parse s2 with
        | none => none
        | some (d3, s3) => some ((d0, d1, d2, d3), s3)
def l4 (d : Clm) : List Int := [d.1, d.2.1, d.2.2.1, d.2.2.2]
theorem parse4_some {s t : List Bool} {d : Clm} (h : parse4 s = some (d, t)) : s = codes (l4 d) ++ t ∧ I64 d.1 ∧ I64 d.2.1 ∧ I64 d.2.2.1 ∧ I64 d.2.2.2 ∧ t.length + 4 ≤ s.length := by
  unfold parse4 at h
  split at h
  · cases h
  rename_i d0 s0 h0
  split at h
  · cases h
  rename_i d1 s1 h1
  split at h
  · cases h
  rename_i d2 s2 h2
  split at h
  · cases h
  rename_i d3 s3 h3
  simp only [Option.some.injEq, Prod.mk.injEq] at h
  obtain ⟨rfl, rfl⟩ := h
  obtain ⟨e0, i0⟩ := code_parse h0
  obtain ⟨e1, i1⟩ := code_parse h1
  obtain ⟨e2, i2⟩ := code_parse h2
  obtain ⟨e3, i3⟩ := code_parse h3
  have l0 := parse_length h0
  have l1 := parse_length h1
  have l2 := parse_length h2
  have l3 := parse_length h3
  refine ⟨?_, i0, i1, i2, i3, by omega⟩
  rw [e0, e1, e2, e3]
  simp [codes, l4]
theorem parse4_codes {d : Clm} (h0 : I64 d.1) (h1 : I64 d.2.1) (h2 : I64 d.2.2.1) (h3 : I64 d.2.2.2) (t : List Bool) : parse4 (codes (l4 d) ++ t) = some (d, t) := by
  unfold parse4 l4
  have e : codes [d.1, d.2.1, d.2.2.1, d.2.2.2] ++ t = code d.1 ++ (code d.2.1 ++ (code d.2.2.1 ++ (code d.2.2.2 ++ t))) := by simp [codes]
  rw [e]
  simp only [parse_code h0, parse_code h1, parse_code h2, parse_code h3]

/- so many claims read; 'dreads' stops at a claim out of range -/
def creads : Nat → Clm → Clm → List Bool → Option (List Clm × List Bool)
  | 0, _, _, s => some ([], s)
  | k + 1, b, a, s =>
    match parse4 s with
    | none => none
    | some (d, t) => (creads k a (nextC b a d) t).map fun p => (nextC b a d :: p.1, p.2)
def dreads : Nat → Clm → Clm → List Bool → Option (List Clm × List Bool)
  | 0, _, _, s => some ([], s)
  | k + 1, b, a, s =>
    match parse4 s with
    | none => none
    | some (d, t) => if okC (nextC b a d) then (dreads k a (nextC b a d) t).map fun p => (nextC b a d :: p.1, p.2) else none
def finC (N : Nat) (t : List Bool) : Option (List Clm) :=
  match dreads N zc zc t with
  | none => none
  | some (l, r) => if padded r then some l else none
def decode (bs : List Nat) : Option (List Clm) :=
  match parse (bitsOf bs) with
  | none => none
  | some (n, t) => if n < 0 ∨ 4096 < n then none else finC n.toNat t
def finCR (bs : List Nat) (N : Nat) (t : List Bool) : Option (List Clm) :=
  match creads N zc zc t with
  | none => none
  | some (l, _) => if encE l = 0 ∧ encB l = bs then some l else none
def refDecode (bs : List Nat) : Option (List Clm) :=
  match parse (bitsOf bs) with
  | none => none
  | some (n, t) => if n < 0 ∨ 4096 < n then none else finCR bs n.toNat t

theorem dreads_iff (k : Nat) (b a : Clm) (s : List Bool) (l : List Clm) (r : List Bool) : dreads k b a s = some (l, r) ↔ creads k b a s = some (l, r) ∧ ∀ c ∈ l, okC c := by
  induction k generalizing b a s l r with
  | zero =>
    simp only [dreads, creads, Option.some.injEq, Prod.mk.injEq]
    constructor
    · rintro ⟨rfl, rfl⟩; simp
    · rintro ⟨⟨rfl, rfl⟩, _⟩; simp
  | succ k ih =>
    simp only [dreads, creads]
    split
    · simp
    · rename_i d t hp
      by_cases hok : okC (nextC b a d)
      · rw [if_pos hok]
        simp only [Option.map_eq_some_iff]
        constructor
        · rintro ⟨⟨l', r'⟩, h1, h2⟩
          simp only [Prod.mk.injEq] at h2
          obtain ⟨rfl, rfl⟩ := h2
          obtain ⟨h3, h4⟩ := (ih _ _ _ _ _).1 h1
          refine ⟨⟨_, h3, rfl⟩, fun c hc => ?_⟩
          rcases List.mem_cons.1 hc with rfl | hc
          · exact hok
          · exact h4 c hc
        · rintro ⟨⟨⟨l', r'⟩, h1, h2⟩, h4⟩
          simp only [Prod.mk.injEq] at h2
          obtain ⟨rfl, rfl⟩ := h2
          exact ⟨_, (ih _ _ _ _ _).2 ⟨h1, fun c hc => h4 c (by simp [hc])⟩, rfl⟩
      · rw [if_neg hok]
        constructor
        · intro h; cases h
        · rintro ⟨h1, h4⟩
          simp only [Option.map_eq_some_iff] at h1
          obtain ⟨⟨l', r'⟩, h1, h2⟩ := h1
          simp only [Prod.mk.injEq] at h2
          obtain ⟨rfl, rfl⟩ := h2
          exact absurd (h4 _ (by simp)) hok

/- the numbers of the claim that numbers made are those numbers -/
theorem c4_next {b a d : Clm} (h0 : I64 d.1) (h1 : I64 d.2.1) (h2 : I64 d.2.2.1) (h3 : I64 d.2.2.2) : c4 b a (nextC b a d) = l4 d := by
  unfold c4 l4 n0 n1 n2 n3 nextC
  simp only
  have e0 : wrap64 (wrap64 (d.1 + 2 * a.1 - b.1) - 2 * a.1 + b.1) = d.1 := by
    rw [show d.1 = wrap64 d.1 from (wrap_of h0).symm]; unfold wrap64; omega
  have e1 : wrap64 (wrap64 (wrap64 (d.1 + 2 * a.1 - b.1) + d.2.1 + (a.2.1 - a.1)) - wrap64 (d.1 + 2 * a.1 - b.1) - (a.2.1 - a.1)) = d.2.1 := by
    rw [show d.2.1 = wrap64 d.2.1 from (wrap_of h1).symm]; generalize wrap64 (d.1 + 2 * a.1 - b.1) = x; unfold wrap64; omega
  have e2 : wrap64 (wrap64 (d.2.2.1 + a.2.2.1) - a.2.2.1) = d.2.2.1 := by
    rw [show d.2.2.1 = wrap64 d.2.2.1 from (wrap_of h2).symm]; unfold wrap64; omega
  have e3 : wrap64 (wrap64 (wrap64 (d.2.2.1 + a.2.2.1) + d.2.2.2 + (a.2.2.2 - a.2.2.1)) - wrap64 (d.2.2.1 + a.2.2.1) - (a.2.2.2 - a.2.2.1)) = d.2.2.2 := by
    rw [show d.2.2.2 = wrap64 d.2.2.2 from (wrap_of h3).symm]; generalize wrap64 (d.2.2.1 + a.2.2.1) = x; unfold wrap64; omega
  rw [e0, e1, e2, e3]
/- the claim of its own numbers -/
theorem next_c4 (b a c : Clm) (h : I64 c.1 ∧ I64 c.2.1 ∧ I64 c.2.2.1 ∧ I64 c.2.2.2) : nextC b a (n0 b a c, n1 a c, n2 a c, n3 a c) = c := by
  obtain ⟨h0, h1, h2, h3⟩ := h
  unfold nextC n0 n1 n2 n3
  simp only
  have e0 : wrap64 (wrap64 (c.1 - 2 * a.1 + b.1) + 2 * a.1 - b.1) = c.1 := by
    rw [show c.1 = wrap64 c.1 from (wrap_of h0).symm]; unfold wrap64; omega
  have e2 : wrap64 (wrap64 (c.2.2.1 - a.2.2.1) + a.2.2.1) = c.2.2.1 := by
    rw [show c.2.2.1 = wrap64 c.2.2.1 from (wrap_of h2).symm]; unfold wrap64; omega
  rw [e0, e2]
  have e1 : wrap64 (c.1 + wrap64 (c.2.1 - c.1 - (a.2.1 - a.1)) + (a.2.1 - a.1)) = c.2.1 := by
    rw [show c.2.1 = wrap64 c.2.1 from (wrap_of h1).symm]; unfold wrap64; omega
  have e3 : wrap64 (c.2.2.1 + wrap64 (c.2.2.2 - c.2.2.1 - (a.2.2.2 - a.2.2.1)) + (a.2.2.2 - a.2.2.1)) = c.2.2.2 := by
    rw [show c.2.2.2 = wrap64 c.2.2.2 from (wrap_of h3).symm]; unfold wrap64; omega
  rw [e1, e3]
theorem ok_i64 {c : Clm} (h : okC c) : I64 c.1 ∧ I64 c.2.1 ∧ I64 c.2.2.1 ∧ I64 c.2.2.2 := by
  unfold okC R40 at h
  unfold I64
  omega

theorem creads_some {k : Nat} {b a : Clm} {s : List Bool} {l : List Clm} {r : List Bool} (h : creads k b a s = some (l, r)) :
    s = codes (cnums b a l) ++ r ∧ l.length = k ∧ 4 * k + r.length ≤ s.length := by
  induction k generalizing b a s l r with
  | zero =>
    simp only [creads, Option.some.injEq, Prod.mk.injEq] at h
    obtain ⟨rfl, rfl⟩ := h
    simp [cnums, codes]
  | succ k ih =>
    simp only [creads] at h
    split at h
    · simp at h
    · rename_i d t hp
      simp only [Option.map_eq_some_iff] at h
      obtain ⟨⟨l', r'⟩, hr, he⟩ := h
      simp only [Prod.mk.injEq] at he
      obtain ⟨rfl, rfl⟩ := he
      obtain ⟨e1, e2, e3⟩ := ih hr
      obtain ⟨hs, i0, i1, i2, i3, hl⟩ := parse4_some hp
      refine ⟨?_, by simp [e2], by omega⟩
      rw [hs, e1]
      simp only [cnums, c4_next i0 i1 i2 i3, codes_append, List.append_assoc]
theorem creads_claims (l : List Clm) (b a : Clm) (h : ∀ c ∈ l, okC c) (r : List Bool) : creads l.length b a (codes (cnums b a l) ++ r) = some (l, r) := by
  induction l generalizing b a with
  | nil => simp [creads, cnums, codes]
  | cons c l ih =>
    have hc := ok_i64 (h c (by simp))
    have e : codes (cnums b a (c :: l)) ++ r = codes (l4 (n0 b a c, n1 a c, n2 a c, n3 a c)) ++ (codes (cnums a c l) ++ r) := by
      simp only [cnums, codes_append, List.append_assoc]; rfl
    rw [e, List.length_cons]
    simp only [creads]
    rw [parse4_codes (wrap_I64 _) (wrap_I64 _) (wrap_I64 _) (wrap_I64 _)]
    simp only [next_c4 b a c hc]
    rw [ih a c (fun x hx => h x (by simp [hx]))]; rfl

theorem decode_eq_ref (bs : List Nat) (hb : Bytes bs) : decode bs = refDecode bs := by
  unfold decode refDecode
  cases hp : parse (bitsOf bs) with
  | none => rfl
  | some p =>
    obtain ⟨n, t⟩ := p
    simp only
    obtain ⟨hs, hn⟩ := code_parse hp
    by_cases h0 : n < 0 ∨ 4096 < n
    · rw [if_pos h0, if_pos h0]
    · rw [if_neg h0, if_neg h0]
      unfold finC finCR
      cases hr : creads n.toNat zc zc t with
      | none =>
        cases hd : dreads n.toNat zc zc t with
        | none => rfl
        | some q =>
          obtain ⟨l, r⟩ := q
          rw [((dreads_iff _ _ _ _ _ _).1 hd).1] at hr
          cases hr
      | some q =>
        obtain ⟨l, r⟩ := q
        obtain ⟨e1, e2, e3⟩ := creads_some hr
        have hnl : n = (l.length : Int) := by omega
        have hi : bitsOf bs = cbits l ++ r := by
          rw [hs, e1]; unfold cbits; rw [hnl, List.append_assoc]
        have hp := padded_iff hb hi
        by_cases hall : ∀ c ∈ l, okC c
        · rw [(dreads_iff _ _ _ _ _ _).2 ⟨hr, hall⟩]
          have hE : encE l = 0 := by unfold encE; rw [if_neg (by omega), if_pos hall]
          have hB : encB l = pack (cbits l) := by unfold encB; rw [if_pos hE]
          simp only
          by_cases hq : padded r
          · rw [if_pos hq, if_pos ⟨hE, by rw [hB]; exact hp.1 hq⟩]
          · rw [if_neg hq, if_neg (fun h => hq (hp.2 (by rw [← hB]; exact h.2)))]
        · have hE : encE l ≠ 0 := by unfold encE; rw [if_neg (by omega), if_neg hall]; decide
          have hd : dreads n.toNat zc zc t = none := by
            cases hd : dreads n.toNat zc zc t with
            | none => rfl
            | some q =>
              obtain ⟨l', r'⟩ := q
              obtain ⟨h1, h2⟩ := (dreads_iff _ _ _ _ _ _).1 hd
              rw [hr] at h1
              simp only [Option.some.injEq, Prod.mk.injEq] at h1
              obtain ⟨rfl, rfl⟩ := h1
              exact absurd h2 hall
          rw [hd]
          simp only
          rw [if_neg (fun h => hE h.1)]
theorem decode_some {bs : List Nat} {l : List Clm} (hb : Bytes bs) (h : decode bs = some l) : (∀ c ∈ l, okC c) ∧ l.length ≤ 4096 ∧ pack (cbits l) = bs := by
  rw [decode_eq_ref bs hb] at h
  unfold refDecode at h
  split at h
  · cases h
  rename_i n t hp
  split at h
  · cases h
  unfold finCR at h
  split at h
  · cases h
  rename_i l' r hr
  split at h
  · rename_i hE
    simp only [Option.some.injEq] at h
    subst h
    have h1 := hE.1
    have h2 := hE.2
    unfold encB at h2
    rw [if_pos h1] at h2
    unfold encE at h1
    split at h1
    · omega
    · rename_i hlen
      split at h1
      · rename_i hall
        exact ⟨hall, by omega, h2⟩
      · omega
  · cases h
theorem decode_enc (l : List Clm) (h : ∀ c ∈ l, okC c) (hl : l.length ≤ 4096) : decode (pack (cbits l)) = some l := by
  unfold decode
  rw [bitsOf_pack, cbits, List.append_assoc, parse_code (by unfold I64; omega)]
  simp only
  rw [if_neg (by omega), Int.toNat_natCast]
  unfold finC
  rw [(dreads_iff _ _ _ _ _ _).2 ⟨creads_claims l zc zc h _, h⟩]
  simp only
  rw [if_pos]
  unfold padded pad
  exact ⟨by rw [List.length_replicate]; omega, fun b hb => List.eq_of_mem_replicate hb⟩
theorem pack_cbits_inj {l m : List Clm} (h : ∀ c ∈ l, okC c) (hl : l.length ≤ 4096) (k : ∀ c ∈ m, okC c) (hm : m.length ≤ 4096) (e : pack (cbits l) = pack (cbits m)) : l = m := by
  have h1 := decode_enc l h hl
  rw [e, decode_enc m k hm] at h1
  exact (Option.some.inj h1).symm
theorem cnums_length (b a : Clm) (l : List Clm) : (cnums b a l).length = 4 * l.length := by
  induction l generalizing b a with
  | nil => rfl
  | cons c l ih => simp only [cnums, List.length_append, ih, List.length_cons]; simp [c4]; omega
theorem cbits_length (l : List Clm) : (cbits l).length ≤ 70 + 280 * l.length := by
  unfold cbits
  have h1 := code_len_le l.length
  have h2 := codes_len (cnums zc zc l)
  rw [cnums_length] at h2
  rw [List.length_append]
  omega
end Go.Proofs.YtgkmfblmkfclbaaGreatDoor.Pl
