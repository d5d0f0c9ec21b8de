/- hash.Bytes: the hash of a label and bytes. block.Encode: the bytes of a block, or an error. The plain law of decoding, step by step: what is left to read. -/
import Derived.Test.YtggnifejlheebaaDoorCodecEnvelopeP19
import Derived.Test.YtggnifejlheebaaDoorCodecEnvelopeP08
import Derived.Laws.MakeOwn
import Derived.Test.YtggnifejlheebaaDoorCodecEnvelopeP07
import Derived.Test.YtggnifejlheebaaDoorCodecEnvelopeP16
namespace Go.Proofs.YtggnifejlheebaaDoor
open Go.RowKit Go.Shelf Pl
attribute [local go_sem] Oper.semAt_some

theorem hashB_eq (lb bs : List Nat) : hashB lb bs = hashSum lb (words bs ++ [bs.length]) := by unfold hashB; rfl
/- one element appended, inside a fence -/
theorem app_oneIn {P : Program} {t e : TypeId} {bytes : Nat} {z : Value} {w : World} {base : Nat} {v : Value} {xs : List Value} {F : Fence} {nF : Nat} {ops : Array Oper} {rest : List Oper} {o : Oper} {a : Act} {Q : Exit → Act → World → Prop} (T : SlT P t e bytes z) (hgd : o.guard = none) (s x : Operand)
    (ho : o.op = .call { callee := .builtin .append, args := #[s, x], argTypes := #[t, t] })
    (hs : a.eval s = v) (hown : Mine w base e v xs) (g c : Nat) (u : Value) (hx : a.eval x = .slice (some ⟨g, 0, none⟩) 1 c) (hc1 : 1 ≤ c) (hg : g < w.heap.size) (hu : w.cell? ⟨g, 0, none⟩ = some u) (h1 : u.oneCell' = true)
    (hn : xs.length < 1099511627776) (hbase : base ≤ w.heap.size)
    (h : ∀ r cap w', Mine w' base e (.slice (some ⟨r, 0, none⟩) (xs.length + 1) cap) (xs ++ [u]) → Keeps (fun i => v.ownBlock = some i) w w' →
      (some r = v.ownBlock ∨ r = w.heap.size) → wpListIn F nF P ops Q rest (a.put o.dst (.slice (some ⟨r, 0, none⟩) (xs.length + 1) cap)) w') : wpListIn F nF P ops Q (o :: rest) a w := by
  have hr : Rd w w.heap.size (.slice (some ⟨g, 0, none⟩) 1 c) [u] := by
    refine ⟨_, c, rfl, hc1, fun _ => ⟨_, rfl, hg, fun j u' hu' => ?_⟩⟩
    match j, hu' with
    | 0, hu' => simp at hu'; subst hu'; simpa [Addr.add] using hu
  refine wpListIn_plain hgd fun K hK => ?_
  obtain ⟨v', w', hrun, h2, h3, h4⟩ := run_app T o.type hown hr (by intro u' hu'; simp at hu'; subst hu'; exact h1) (by simp; omega) hbase
  unfold Oper.wpIn
  refine ⟨by simp [Oper.about, ho, resolve, Target.leads, Sem.run_pure], ?_⟩
  rw [Oper.semAt_plain F _ _ (by rw [ho]; intro c hc'; cases hc')]
  simp [execOp, ho, resolve, invoke, builtin, hs, hx, hrun, Result.andThen]
  rcases h2.form with ⟨_, hh⟩ | ⟨g', cap, cur, rfl, hb, hbox, _⟩
  · simp at hh
  · simp only [List.length_append, List.length_singleton] at h2 h4 ⊢
    refine hK _ _ (h g' cap w' h2 h3 ?_)
    rcases h4 with h4 | h4
    · exact .inl h4
    · right; simpa [Value.ownBlock] using h4

theorem make_words (n : Nat) (hn : n ≤ 1000000000) : ∃ Z : Array Value, Z.size = n / 8 + 2 ∧ ∀ w : World, (Instr.makeSlice 22 (.int .i64 0) (.int .i64 ((n : Int) / 8 + 2))).run Tryd.prog w = .ok (.slice (some ⟨w.heap.size, 0, none⟩) 0 (n / 8 + 2)) (w.alloc (.cells Z 3)) := by
  obtain ⟨i, hi, hz, hs, hby⟩ := info_parts slInt.info
  refine ⟨madeCells (Value.int .i64 0).cells (n / 8 + 2), size_madeCells _ _, fun w => ?_⟩
  have := run_make (P := Tryd.prog) w 22 3 i _ Tryd.underlying22 hi hz .i64 .i64 0 ((n : Int) / 8 + 2) (by omega) (by omega) (by rw [hby]; omega) (by omega)
  rw [hs, Nat.mul_one] at this
  have e : ((n : Int) / 8 + 2).toNat = n / 8 + 2 := by omega
  rw [e] at this
  exact this

end Go.Proofs.YtggnifejlheebaaDoor
namespace Go.Proofs.YtggnifejlheebaaDoor
open Go.RowKit Pl

def blockL : List Nat := [98, 108, 111, 99, 107]
theorem blockL_bytes : Bytes blockL := by intro x hx; simp [blockL] at hx; omega
def coreB (x : Clm) (cb : List Nat) : List Nat := vint (zig x.1) ++ vint (zig x.2.1) ++ vint (zig x.2.2.1) ++ vint (zig x.2.2.2) ++ rawB cb
def wholeB (core : List Nat) : List Nat := rawB core ++ vint (hashB blockL core)
theorem bytes_app {a b : List Nat} (ha : Bytes a) (hb : Bytes b) : Bytes (a ++ b) := fun x hx => by
  rcases List.mem_append.1 hx with h | h
  · exact ha x h
  · exact hb x h
theorem rawB_bytes {b : List Nat} (h : Bytes b) : Bytes (rawB b) := bytes_app (vint_bytes _) h
theorem coreB_bytes (x : Clm) {cb : List Nat} (h : Bytes cb) : Bytes (coreB x cb) := bytes_app (bytes_app (bytes_app (bytes_app (vint_bytes _) (vint_bytes _)) (vint_bytes _)) (vint_bytes _)) (rawB_bytes h)
def bEncE (x : Clm) (cs : List Clm) : Int := if okB x then encE cs else 1
def bEncB (x : Clm) (cs : List Clm) : List Nat := if bEncE x cs = 0 then wholeB (coreB x (pack (cbits cs))) else []
theorem okB_i64 {x : Clm} (h : okB x) : I64 x.1 ∧ I64 x.2.1 ∧ I64 x.2.2.1 ∧ I64 x.2.2.2 := by
  unfold okB at h
  have h1 : pHi x.2.1.toNat ≤ 1073741824 := by unfold pHi; repeat (split <;> try omega)
  have h2 : 0 ≤ pLo x.2.1.toNat := by unfold pLo; split <;> omega
  unfold I64; omega
theorem Mine.keepWW {w w' : World} {base' g : Nat} {v u : Value} {xs : List Value} (hm : Mine w base' 5 u xs) (hk : KeepsW g v w w') (hu : ∀ k, u.ownBlock = some k → k ≠ g ∧ v.ownBlock ≠ some k) : Mine w' base' 5 u xs :=
  hm.keep hk fun k h e => by
    rcases e with e | e
    · exact (hu k h).1 e
    · exact (hu k h).2 e
/- a row that is none of a writer's -/
def Off2 (u : Value) (g : Nat) (v : Value) : Prop := ∀ k, u.ownBlock = some k → k ≠ g ∧ v.ownBlock ≠ some k
/- what Encode of a block does -/
def BEncPost (x : Clm) (cs : List Clm) (w : World) (e : Ending) (w' : World) : Prop :=
  ∃ v, e = .returned (.tuple #[v, .int .i64 (bEncE x cs)]) ∧ Mine w' w.heap.size 5 v ((bEncB x cs).map vb) ∧ Grew w w'

end Go.Proofs.YtggnifejlheebaaDoor
namespace Go.Proofs.YtggnifejlheebaaDoor
open Go.RowKit Pl

def readK : Nat → List Bool → Option (List Int × List Bool)
  | 0, s => some ([], s)
  | k + 1, s =>
    match parse s with
    | none => none
    | some (d, t) => (readK k t).map fun p => (d :: p.1, p.2)
theorem parse4_readK (s : List Bool) : parse4 s = (readK 4 s).map fun p => ((p.1.getD 0 0, p.1.getD 1 0, p.1.getD 2 0, p.1.getD 3 0), p.2) := by
  unfold parse4
  simp only [readK]
  cases parse s with
  | none => rfl
  | some p =>
    obtain ⟨d0, s0⟩ := p
    simp only
    cases parse s0 with
    | none => rfl
    | some p =>
      obtain ⟨d1, s1⟩ := p
      simp only
      cases parse s1 with
      | none => rfl
      | some p =>
        obtain ⟨d2, s2⟩ := p
        simp only
        cases parse s2 with
        | none => rfl
        | some p => rfl
/- so many of the four numbers are read: they stand in c -/
def P4 (s0 : List Bool) (j : Nat) (c : Clm) (s : List Bool) : Prop := j ≤ 4 ∧ readK 4 s0 = (readK (4 - j) s).map fun p => ((l4 c).take j ++ p.1, p.2)
def setC (c : Clm) (j : Nat) (d : Int) : Clm :=
  match j with
  | 0 => (d, c.2.1, c.2.2.1, c.2.2.2)
  | 1 => (c.1, d, c.2.2.1, c.2.2.2)
  | 2 => (c.1, c.2.1, d, c.2.2.2)
  | _ => (c.1, c.2.1, c.2.2.1, d)
theorem P4.start (s : List Bool) (c : Clm) : P4 s 0 c s := ⟨by omega, by cases readK 4 s <;> simp⟩
theorem P4.step {s0 s t : List Bool} {j : Nat} {c : Clm} {d : Int} (h : P4 s0 j c s) (hj : j < 4) (hp : parse s = some (d, t)) : P4 s0 (j + 1) (setC c j d) t := by
  refine ⟨by omega, ?_⟩
  rw [h.2]
  obtain ⟨m, hm⟩ : ∃ m, 4 - j = m + 1 := ⟨4 - j - 1, by omega⟩
  rw [hm, show 4 - (j + 1) = m by omega]
  simp only [readK, hp]
  have hl : (l4 (setC c j d)).take (j + 1) = (l4 c).take j ++ [d] := by
    have : j = 0 ∨ j = 1 ∨ j = 2 ∨ j = 3 := by omega
    rcases this with rfl | rfl | rfl | rfl <;> rfl
  rw [hl]
  cases readK m t <;> simp
theorem P4.fail {s0 s : List Bool} {j : Nat} {c : Clm} (h : P4 s0 j c s) (hj : j < 4) (hp : parse s = none) : parse4 s0 = none := by
  rw [parse4_readK, h.2]
  obtain ⟨m, hm⟩ : ∃ m, 4 - j = m + 1 := ⟨4 - j - 1, by omega⟩
  rw [hm]
  simp only [readK, hp]
  rfl
theorem P4.done {s0 s : List Bool} {c : Clm} (h : P4 s0 4 c s) : parse4 s0 = some (c, s) := by
  rw [parse4_readK, h.2]
  simp [readK, l4]

/- what is left of the reading of claims -/
def RestC (N : Nat) (t0 : List Bool) (j : Nat) (be la : Clm) (s : List Bool) (acc : List Clm) : Prop :=
  j ≤ N ∧ dreads N zc zc t0 = (dreads (N - j) be la s).map fun p => (acc ++ p.1, p.2)
theorem RestC.start (N : Nat) (t0 : List Bool) : RestC N t0 0 zc zc t0 [] := ⟨by omega, by cases dreads N zc zc t0 <;> simp⟩
theorem RestC.step {N j : Nat} {t0 s t : List Bool} {be la d : Clm} {acc : List Clm} (h : RestC N t0 j be la s acc) (hj : j < N) (hp : parse4 s = some (d, t)) (ho : okC (nextC be la d)) : RestC N t0 (j + 1) la (nextC be la d) t (acc ++ [nextC be la d]) := by
  refine ⟨by omega, ?_⟩
  rw [h.2]
  obtain ⟨m, hm⟩ : ∃ m, N - j = m + 1 := ⟨N - j - 1, by omega⟩
  rw [hm, show N - (j + 1) = m by omega]
  simp only [dreads, hp, if_pos ho]
  cases dreads m la (nextC be la d) t <;> simp
theorem RestC.fail {N j : Nat} {t0 s : List Bool} {be la : Clm} {acc : List Clm} (h : RestC N t0 j be la s acc) (hj : j < N) (hp : parse4 s = none) : dreads N zc zc t0 = none := by
  rw [h.2]
  obtain ⟨m, hm⟩ : ∃ m, N - j = m + 1 := ⟨N - j - 1, by omega⟩
  rw [hm]
  simp only [dreads, hp]
  rfl
theorem RestC.out {N j : Nat} {t0 s t : List Bool} {be la d : Clm} {acc : List Clm} (h : RestC N t0 j be la s acc) (hj : j < N) (hp : parse4 s = some (d, t)) (ho : ¬ okC (nextC be la d)) : dreads N zc zc t0 = none := by
  rw [h.2]
  obtain ⟨m, hm⟩ : ∃ m, N - j = m + 1 := ⟨N - j - 1, by omega⟩
  rw [hm]
  simp only [dreads, hp, if_neg ho]
  rfl
theorem RestC.done {N : Nat} {t0 s : List Bool} {be la : Clm} {acc : List Clm} (h : RestC N t0 N be la s acc) : dreads N zc zc t0 = some (acc, s) := by
  rw [h.2, Nat.sub_self]; simp [dreads]
/- the same, of the reference: it looks at the range only behind the last -/
def RestR (N : Nat) (t0 : List Bool) (j : Nat) (be la : Clm) (s : List Bool) (acc : List Clm) : Prop :=
  j ≤ N ∧ creads N zc zc t0 = (creads (N - j) be la s).map fun p => (acc ++ p.1, p.2)
theorem RestR.start (N : Nat) (t0 : List Bool) : RestR N t0 0 zc zc t0 [] := ⟨by omega, by cases creads N zc zc t0 <;> simp⟩
theorem RestR.step {N j : Nat} {t0 s t : List Bool} {be la d : Clm} {acc : List Clm} (h : RestR N t0 j be la s acc) (hj : j < N) (hp : parse4 s = some (d, t)) : RestR N t0 (j + 1) la (nextC be la d) t (acc ++ [nextC be la d]) := by
  refine ⟨by omega, ?_⟩
  rw [h.2]
  obtain ⟨m, hm⟩ : ∃ m, N - j = m + 1 := ⟨N - j - 1, by omega⟩
  rw [hm, show N - (j + 1) = m by omega]
  simp only [creads, hp]
  cases creads m la (nextC be la d) t <;> simp
theorem RestR.fail {N j : Nat} {t0 s : List Bool} {be la : Clm} {acc : List Clm} (h : RestR N t0 j be la s acc) (hj : j < N) (hp : parse4 s = none) : creads N zc zc t0 = none := by
  rw [h.2]
  obtain ⟨m, hm⟩ : ∃ m, N - j = m + 1 := ⟨N - j - 1, by omega⟩
  rw [hm]
  simp only [creads, hp]
  rfl
theorem RestR.done {N : Nat} {t0 s : List Bool} {be la : Clm} {acc : List Clm} (h : RestR N t0 N be la s acc) : creads N zc zc t0 = some (acc, s) := by
  rw [h.2, Nat.sub_self]; simp [creads]

/- the reference's differences -/
def diffs : Int → List Int → List Int
  | _, [] => []
  | a, x :: l => wrap64 (x - a) :: diffs x l
theorem diffs_length (a : Int) (l : List Int) : (diffs a l).length = l.length := by
  induction l generalizing a with
  | nil => rfl
  | cons x l ih => simp [diffs, ih]
theorem diffs_getD (a : Int) (l : List Int) (j : Nat) (hj : j < l.length) : (diffs a l).getD j 0 = wrap64 (l.getD j 0 - (a :: l).getD j 0) := by
  induction l generalizing a j with
  | nil => simp at hj
  | cons x l ih =>
    cases j with
    | zero => rfl
    | succ j => simp only [diffs, List.getD_cons_succ]; exact ih x j (by simpa using hj)
theorem diffs_take (a : Int) (l : List Int) (j : Nat) (hj : j < l.length) : (diffs a l).take (j + 1) = (diffs a l).take j ++ [wrap64 (l.getD j 0 - (a :: l).getD j 0)] := by
  rw [List.take_add_one, ← diffs_getD a l j hj]
  have : j < (diffs a l).length := by rw [diffs_length]; exact hj
  simp [List.getElem?_eq_getElem this, List.getD_eq_getElem?_getD]
theorem seconds_getD (b a : Int) (l : List Int) (j : Nat) (hj : j < l.length) : (seconds b a l).getD j 0 = wrap64 (l.getD j 0 - 2 * (a :: l).getD j 0 + (b :: a :: l).getD j 0) := by
  induction l generalizing b a j with
  | nil => simp at hj
  | cons x l ih =>
    cases j with
    | zero => rfl
    | succ j => simp only [seconds, List.getD_cons_succ]; exact ih a x j (by simpa using hj)
theorem diffs_I64 (a : Int) (l : List Int) : ∀ x ∈ diffs a l, I64 x := by
  induction l generalizing a with
  | nil => intro x hx; simp [diffs] at hx
  | cons y l ih =>
    intro x hx
    simp only [diffs, List.mem_cons] at hx
    rcases hx with rfl | hx
    · exact wrap_I64 _
    · exact ih _ x hx
/- the four lists of the reference -/
def frs (cs : List Clm) : List Int := cs.map fun c => c.1
def les (cs : List Clm) : List Int := cs.map fun c => wrap64 (c.2.1 - c.1)
def los (cs : List Clm) : List Int := cs.map fun c => c.2.2.1
def wis (cs : List Clm) : List Int := cs.map fun c => wrap64 (c.2.2.2 - c.2.2.1)
theorem getD_map0 (f : Clm → Int) (hf : f zc = 0) (cs : List Clm) (j : Nat) : (cs.map f).getD j 0 = f (cs.getD j zc) := by
  rw [List.getD_eq_getElem?_getD, List.getD_eq_getElem?_getD, List.getElem?_map]
  cases cs[j]? with
  | none => simp [hf]
  | some c => rfl
theorem getD_map1 (f : Clm → Int) (hf : f zc = 0) (cs : List Clm) (j : Nat) : (0 :: cs.map f).getD j 0 = f (q1 cs j) := by
  unfold q1
  cases j with
  | zero => exact hf.symm
  | succ j => simp only [List.getD_cons_succ]; exact getD_map0 f hf cs j
theorem getD_map2 (f : Clm → Int) (hf : f zc = 0) (cs : List Clm) (j : Nat) : (0 :: 0 :: cs.map f).getD j 0 = f (q2 cs j) := by
  unfold q2
  cases j with
  | zero => exact hf.symm
  | succ j => simp only [List.getD_cons_succ]; exact getD_map1 f hf cs j
theorem ref_c4 (cs : List Clm) (j : Nat) (hj : j < cs.length) :
    (seconds 0 0 (frs cs)).getD j 0 = n0 (q2 cs j) (q1 cs j) (cs.getD j zc) ∧ (diffs 0 (les cs)).getD j 0 = n1 (q1 cs j) (cs.getD j zc) ∧
    (diffs 0 (los cs)).getD j 0 = n2 (q1 cs j) (cs.getD j zc) ∧ (diffs 0 (wis cs)).getD j 0 = n3 (q1 cs j) (cs.getD j zc) := by
  unfold frs les los wis
  have w0 : wrap64 (0 - 0) = 0 := by unfold wrap64; omega
  rw [seconds_getD _ _ _ _ (by simpa using hj), diffs_getD _ _ _ (by simpa using hj), diffs_getD _ _ _ (by simpa using hj), diffs_getD _ _ _ (by simpa using hj)]
  rw [getD_map0 _ rfl, getD_map1 _ rfl, getD_map2 _ rfl, getD_map0 _ w0, getD_map1 _ w0, getD_map0 _ rfl, getD_map1 _ rfl, getD_map0 _ w0, getD_map1 _ w0]
  unfold n0 n1 n2 n3
  refine ⟨rfl, ?_, rfl, ?_⟩
  · unfold wrap64; omega
  · unfold wrap64; omega
end Go.Proofs.YtggnifejlheebaaDoor
