/- The plain law of decoding, step by step: what is left to read. The reference: whether a claim is encodable; numbers kept in a range; differences of a list. -/
import Derived.Test.YtjiiiimhegkklaaDoorBlockEqualP15
import Derived.Test.YtjiiiimhegkklaaDoorBlockEqualP16
namespace Go.Proofs.YtjiiiimhegkklaaDoor
open Go.RowKit Pl

def readK : Nat → List Bool → Option (List Int × List Bool)
  | 0, s => some ([], s)
  | k + 1, s =>
    match parse s with
    | none => none
    | some (d, t) => (readK k t).map fun p => (d :: p.1, p.2)
theorem parse4_readK (s : List Bool) : parse4 s = (readK 4 s).map fun p => ((p.1.getD 0 0, p.1.getD 1 0, p.1.getD 2 0, p.1.getD 3 0), p.2) := by
  unfold parse4
  simp only [readK]
  cases parse s with
  | none => rfl
  | some p =>
    obtain ⟨d0, s0⟩ := p
    simp only
    cases parse s0 with
    | none => rfl
    | some p =>
      obtain ⟨d1, s1⟩ := p
      simp only
      cases parse s1 with
      | none => rfl
      | some p =>
        obtain ⟨d2, s2⟩ := p
        simp only
        cases parse s2 with
        | none => rfl
        | some p => rfl
/- so many of the four numbers are read: they stand in c -/
def P4 (s0 : List Bool) (j : Nat) (c : Clm) (s : List Bool) : Prop := j ≤ 4 ∧ readK 4 s0 = (readK (4 - j) s).map fun p => ((l4 c).take j ++ p.1, p.2)
def setC (c : Clm) (j : Nat) (d : Int) : Clm :=
  match j with
  | 0 => (d, c.2.1, c.2.2.1, c.2.2.2)
  | 1 => (c.1, d, c.2.2.1, c.2.2.2)
  | 2 => (c.1, c.2.1, d, c.2.2.2)
  | _ => (c.1, c.2.1, c.2.2.1, d)
theorem P4.start (s : List Bool) (c : Clm) : P4 s 0 c s := ⟨by omega, by cases readK 4 s <;> simp⟩
theorem P4.step {s0 s t : List Bool} {j : Nat} {c : Clm} {d : Int} (h : P4 s0 j c s) (hj : j < 4) (hp : parse s = some (d, t)) : P4 s0 (j + 1) (setC c j d) t := by
  refine ⟨by omega, ?_⟩
  rw [h.2]
  obtain ⟨m, hm⟩ : ∃ m, 4 - j = m + 1 := ⟨4 - j - 1, by omega⟩
  rw [hm, show 4 - (j + 1) = m by omega]
  simp only [readK, hp]
  have hl : (l4 (setC c j d)).take (j + 1) = (l4 c).take j ++ [d] := by
    have : j = 0 ∨ j = 1 ∨ j = 2 ∨ j = 3 := by omega
    rcases this with rfl | rfl | rfl | rfl <;> rfl
  rw [hl]
  cases readK m t <;> simp
theorem P4.fail {s0 s : List Bool} {j : Nat} {c : Clm} (h : P4 s0 j c s) (hj : j < 4) (hp : parse s = none) : parse4 s0 = none := by
  rw [parse4_readK, h.2]
  obtain ⟨m, hm⟩ : ∃ m, 4 - j = m + 1 := ⟨4 - j - 1, by omega⟩
  rw [hm]
  simp only [readK, hp]
  rfl
theorem P4.done {s0 s : List Bool} {c : Clm} (h : P4 s0 4 c s) : parse4 s0 = some (c, s) := by
  rw [parse4_readK, h.2]
  simp [readK, l4]

/- what is left of the reading of claims -/
def RestC (N : Nat) (t0 : List Bool) (j : Nat) (be la : Clm) (s : List Bool) (acc : List Clm) : Prop :=
  j ≤ N ∧ dreads N zc zc t0 = (dreads (N - j) be la s).map fun p => (acc ++ p.1, p.2)
theorem RestC.start (N : Nat) (t0 : List Bool) : RestC N t0 0 zc zc t0 [] := ⟨by omega, by cases dreads N zc zc t0 <;> simp⟩
theorem RestC.step {N j : Nat} {t0 s t : List Bool} {be la d : Clm} {acc : List Clm} (h : RestC N t0 j be la s acc) (hj : j < N) (hp : parse4 s = some (d, t)) (ho : okC (nextC be la d)) : RestC N t0 (j + 1) la (nextC be la d) t (acc ++ [nextC be la d]) := by
  refine ⟨by omega, ?_⟩
  rw [h.2]
  obtain ⟨m, hm⟩ : ∃ m, N - j = m + 1 := ⟨N - j - 1, by omega⟩
  rw [hm, show N - (j + 1) = m by omega]
  simp only [dreads, hp, if_pos ho]
  cases dreads m la (nextC be la d) t <;> simp
theorem RestC.fail {N j : Nat} {t0 s : List Bool} {be la : Clm} {acc : List Clm} (h : RestC N t0 j be la s acc) (hj : j < N) (hp : parse4 s = none) : dreads N zc zc t0 = none := by
  rw [h.2]
  obtain ⟨m, hm⟩ : ∃ m, N - j = m + 1 := ⟨N - j - 1, by omega⟩
  rw [hm]
  simp only [dreads, hp]
  rfl
theorem RestC.out {N j : Nat} {t0 s t : List Bool} {be la d : Clm} {acc : List Clm} (h : RestC N t0 j be la s acc) (hj : j < N) (hp : parse4 s = some (d, t)) (ho : ¬ okC (nextC be la d)) : dreads N zc zc t0 = none := by
  rw [h.2]
  obtain ⟨m, hm⟩ : ∃ m, N - j = m + 1 := ⟨N - j - 1, by omega⟩
  rw [hm]
  simp only [dreads, hp, if_neg ho]
  rfl
theorem RestC.done {N : Nat} {t0 s : List Bool} {be la : Clm} {acc : List Clm} (h : RestC N t0 N be la s acc) : dreads N zc zc t0 = some (acc, s) := by
  rw [h.2, Nat.sub_self]; simp [dreads]
/- the same, of the reference: it looks at the range only behind the last -/
def RestR (N : Nat) (t0 : List Bool) (j : Nat) (be la : Clm) (s : List Bool) (acc : List Clm) : Prop :=
  j ≤ N ∧ creads N zc zc t0 = (creads (N - j) be la s).map fun p => (acc ++ p.1, p.2)
theorem RestR.start (N : Nat) (t0 : List Bool) : RestR N t0 0 zc zc t0 [] := ⟨by omega, by cases creads N zc zc t0 <;> simp⟩
theorem RestR.step {N j : Nat} {t0 s t : List Bool} {be la d : Clm} {acc : List Clm} (h : RestR N t0 j be la s acc) (hj : j < N) (hp : parse4 s = some (d, t)) : RestR N t0 (j + 1) la (nextC be la d) t (acc ++ [nextC be la d]) := by
  refine ⟨by omega, ?_⟩
  rw [h.2]
  obtain ⟨m, hm⟩ : ∃ m, N - j = m + 1 := ⟨N - j - 1, by omega⟩
  rw [hm, show N - (j + 1) = m by omega]
  simp only [creads, hp]
  cases creads m la (nextC be la d) t <;> simp
theorem RestR.fail {N j : Nat} {t0 s : List Bool} {be la : Clm} {acc : List Clm} (h : RestR N t0 j be la s acc) (hj : j < N) (hp : parse4 s = none) : creads N zc zc t0 = none := by
  rw [h.2]
  obtain ⟨m, hm⟩ : ∃ m, N - j = m + 1 := ⟨N - j - 1, by omega⟩
  rw [hm]
  simp only [creads, hp]
  rfl
theorem RestR.done {N : Nat} {t0 s : List Bool} {be la : Clm} {acc : List Clm} (h : RestR N t0 N be la s acc) : creads N zc zc t0 = some (acc, s) := by
  rw [h.2, Nat.sub_self]; simp [creads]

/- the reference's differences -/
def diffs : Int → List Int → List Int
  | _, [] => []
  | a, x :: l => wrap64 (x - a) :: diffs x l
theorem diffs_length (a : Int) (l : List Int) : (diffs a l).length = l.length := by
  induction l generalizing a with
  | nil => rfl
  | cons x l ih => simp [diffs, ih]
theorem diffs_getD (a : Int) (l : List Int) (j : Nat) (hj : j < l.length) : (diffs a l).getD j 0 = wrap64 (l.getD j 0 - (a :: l).getD j 0) := by
  induction l generalizing a j with
  | nil => simp at hj
  | cons x l ih =>
    cases j with
    | zero => rfl
    | succ j => simp only [diffs, List.getD_cons_succ]; exact ih x j (by simpa using hj)
theorem diffs_take (a : Int) (l : List Int) (j : Nat) (hj : j < l.length) : (diffs a l).take (j + 1) = (diffs a l).take j ++ [wrap64 (l.getD j 0 - (a :: l).getD j 0)] := by
  rw [List.take_add_one, ← diffs_getD a l j hj]
  have : j < (diffs a l).length := by rw [diffs_length]; exact hj
  simp [List.getElem?_eq_getElem this, List.getD_eq_getElem?_getD]
theorem seconds_getD (b a : Int) (l : List Int) (j : Nat) (hj : j < l.length) : (seconds b a l).getD j 0 = wrap64 (l.getD j 0 - 2 * (a :: l).getD j 0 + (b :: a :: l).getD j 0) := by
  induction l generalizing b a j with
  | nil => simp at hj
  | cons x l ih =>
    cases j with
    | zero => rfl
    | succ j => simp only [seconds, List.getD_cons_succ]; exact ih a x j (by simpa using hj)
theorem diffs_I64 (a : Int) (l : List Int) : ∀ x ∈ diffs a l, I64 x := by
  induction l generalizing a with
  | nil => intro x hx; simp [diffs] at hx
  | cons y l ih =>
    intro x hx
    simp only [diffs, List.mem_cons] at hx
    rcases hx with rfl | hx
    · exact wrap_I64 _
    · exact ih _ x hx
/- the four lists of the reference -/
def frs (cs : List Clm) : List Int := cs.map fun c => c.1
def les (cs : List Clm) : List Int := cs.map fun c => wrap64 (c.2.1 - c.1)
def los (cs : List Clm) : List Int := cs.map fun c => c.2.2.1
def wis (cs : List Clm) : List Int := cs.map fun c => wrap64 (c.2.2.2 - c.2.2.1)
theorem getD_map0 (f : Clm → Int) (hf : f zc = 0) (cs : List Clm) (j : Nat) : (cs.map f).getD j 0 = f (cs.getD j zc) := by
  rw [List.getD_eq_getElem?_getD, List.getD_eq_getElem?_getD, List.getElem?_map]
  cases cs[j]? with
  | none => simp [hf]
  | some c => rfl
theorem getD_map1 (f : Clm → Int) (hf : f zc = 0) (cs : List Clm) (j : Nat) : (0 :: cs.map f).getD j 0 = f (q1 cs j) := by
  unfold q1
  cases j with
  | zero => exact hf.symm
  | succ j => simp only [List.getD_cons_succ]; exact getD_map0 f hf cs j
theorem getD_map2 (f : Clm → Int) (hf : f zc = 0) (cs : List Clm) (j : Nat) : (0 :: 0 :: cs.map f).getD j 0 = f (q2 cs j) := by
  unfold q2
  cases j with
  | zero => exact hf.symm
  | succ j => simp only [List.getD_cons_succ]; exact getD_map1 f hf cs j
theorem ref_c4 (cs : List Clm) (j : Nat) (hj : j < cs.length) :
    (seconds 0 0 (frs cs)).getD j 0 = n0 (q2 cs j) (q1 cs j) (cs.getD j zc) ∧ (diffs 0 (les cs)).getD j 0 = n1 (q1 cs j) (cs.getD j zc) ∧
    (diffs 0 (los cs)).getD j 0 = n2 (q1 cs j) (cs.getD j zc) ∧ (diffs 0 (wis cs)).getD j 0 = n3 (q1 cs j) (cs.getD j zc) := by
  unfold frs les los wis
  have w0 : wrap64 (0 - 0) = 0 := by unfold wrap64; omega
  rw [seconds_getD _ _ _ _ (by simpa using hj), diffs_getD _ _ _ (by simpa using hj), diffs_getD _ _ _ (by simpa using hj), diffs_getD _ _ _ (by simpa using hj)]
  rw [getD_map0 _ rfl, getD_map1 _ rfl, getD_map2 _ rfl, getD_map0 _ w0, getD_map1 _ w0, getD_map0 _ rfl, getD_map1 _ rfl, getD_map0 _ w0, getD_map1 _ w0]
  unfold n0 n1 n2 n3
  refine ⟨rfl, ?_, rfl, ?_⟩
  · unfold wrap64; omega
  · unfold wrap64; omega
end Go.Proofs.YtjiiiimhegkklaaDoor
namespace Go.Proofs.YtjiiiimhegkklaaDoor
open Go.RowKit Pl

theorem cells4_at (c : Clm) (j : Nat) (hj : j < 4) : (cells4 c).toArray[j]? = some (.int .i64 ((l4 c).getD j 0)) := by
  have : j = 0 ∨ j = 1 ∨ j = 2 ∨ j = 3 := by omega
  rcases this with rfl | rfl | rfl | rfl <;> rfl
theorem okC_l4 (c : Clm) : okC c ↔ ∀ x ∈ l4 c, R40 x := by unfold okC l4; simp
theorem l4_get (c : Clm) (j : Nat) (hj : j < 4) : (l4 c)[j]? = some ((l4 c).getD j 0) := by
  have : j = 0 ∨ j = 1 ∨ j = 2 ∨ j = 3 := by omega
  rcases this with rfl | rfl | rfl | rfl <;> rfl

set_option maxHeartbeats 1600000 in
set_option maxRecDepth 100000 in
theorem rencodable_any (c : Clm) (w : World) :
    Calls Tryd.prog 79 #[vc c] w fun e w' => e = .returned (.bool (decide (okC c))) ∧ Grew w w' := by
  have hG0 : Grew w ((w.alloc (.cells #[.int .i64 c.1, .int .i64 c.2.1, .int .i64 c.2.2.1, .int .i64 c.2.2.2] 24)).alloc (.cells #[.int .i64 c.1, .int .i64 c.2.1, .int .i64 c.2.2.1, .int .i64 c.2.2.2] 3)) := ((Grew.refl w).alloc _).alloc _
  have hb0 : Box ((w.alloc (.cells #[.int .i64 c.1, .int .i64 c.2.1, .int .i64 c.2.2.1, .int .i64 c.2.2.2] 24)).alloc (.cells #[.int .i64 c.1, .int .i64 c.2.1, .int .i64 c.2.2.1, .int .i64 c.2.2.2] 3)) (w.heap.size + 1) 3 (cells4 c).toArray := by
    have := Box.new (w.alloc (.cells #[.int .i64 c.1, .int .i64 c.2.1, .int .i64 c.2.2.1, .int .i64 c.2.2.2] 24)) 3 (cells4 c).toArray
    rw [World.size_alloc] at this
    exact this
  have HG0 := Lib.hid hG0
  have HB0 := Lib.hid hb0
  unfold vc cells4
  clear hG0 hb0
  go_enter Tryd.func79, Tryd.ntmps79
  go_wp2_with fail
  go_loopw [4] (fun i wr => ∃ (j : Nat), j ≤ 4 ∧ i = .int .i64 j ∧ Box wr (w.heap.size + 1) 3 (cells4 c).toArray ∧ Grew w wr ∧ ∀ x ∈ (l4 c).take j, R40 x) (fun i _ => 4 - (intOf i).toNat)
  case atStart => exact ⟨0, by omega, rfl, HB0.out, HG0.out, by simp⟩
  case round =>
    clear HB0 HG0
    obtain ⟨j, hj, rfl, hb, hGr, hall⟩ := hrel
    have HALL := Lib.hid hall
    clear hall
    by_cases hlt : j < 4
    · have hcell := (hb.cell j).trans (cells4_at c j hlt)
      have HX := Lib.hid (l4_get c j hlt)
      have HB := Lib.hid hb
      clear hb
      generalize (l4 c).getD j 0 = x at *
      by_cases hr : R40 x
      · have HST := Lib.hid (take_r40 HALL.out HX.out hr)
        have t1 : decide (x < -1099511627776) = false := by unfold R40 at hr; simp; omega
        have t2 : decide (1099511627776 < x) = false := by unfold R40 at hr; simp; omega
        clear hr
        go_wp2_with fail
        go_roundw
        case rel => exact ⟨j + 1, by omega, by go_num, HB.out, hGr, HST.out⟩
        case measure => simp [intOf]; omega
      · have hD : decide (okC c) = false := by
          rw [decide_eq_false_iff_not, okC_l4]
          exact fun k => hr (k x (List.mem_of_getElem? HX.out))
        have HD := Lib.hid hD
        clear hD
        by_cases hl : x < -1099511627776
        · have t1 : decide (x < -1099511627776) = true := by simp [hl]
          clear hr hl
          go_wp2_with fail
          go_ret
          exact ⟨by rw [HD.out]; rfl, hGr⟩
        · have t1 : decide (x < -1099511627776) = false := by simp; omega
          have t2 : decide (1099511627776 < x) = true := by unfold R40 at hr; simp; omega
          clear hr hl
          go_wp2_with fail
          go_ret
          exact ⟨by rw [HD.out]; rfl, hGr⟩
    · have hD : decide (okC c) = true := by
        rw [decide_eq_true_eq, okC_l4]
        have := HALL.out
        rwa [List.take_of_length_le (by simp [l4]; omega)] at this
      have HD := Lib.hid hD
      clear hD
      go_wp2_with fail
      go_ret
      exact ⟨by rw [HD.out]; rfl, hGr⟩

/- a number brought into the range from -m to m -/
def bnd (n : Int) (m : Nat) : Int := (arnd n (2 * m + 1) : Nat) - (m : Int)
theorem bnd_range (n : Int) (m : Nat) : -(m : Int) ≤ bnd n m ∧ bnd n m ≤ m := by
  have := arnd_lt n (2 * m + 1) (by omega)
  unfold bnd; omega
theorem bound_any (n : Int) (m : Nat) (w : World) (hn : I64 n) (hm : m ≤ 2305843009213693952) :
    Calls Tryd.prog 42 #[.int .i64 n, .int .i64 (m : Nat)] w fun e w' => e = .returned (.int .i64 (bnd n m)) ∧ w = w' := by
  have hA := around_any n (2 * m + 1) w hn (by omega) (by omega)
  have e1 : ((2 * m + 1 : Nat) : Int) = 2 * (m : Int) + 1 := by omega
  rw [e1] at hA
  have HA := Lib.hid hA
  have hb := bnd_range n m
  have ha := arnd_lt n (2 * m + 1) (by omega)
  unfold bnd at hb ⊢
  clear hA e1
  go_enter Tryd.func42, Tryd.ntmps42
  go_wp2_with (go_at_call 33; refine HA.out.mono ?_; rintro e w' ⟨rfl, rfl⟩)
  go_ret
  exact ⟨rfl, rfl⟩

set_option maxHeartbeats 3200000 in
set_option maxRecDepth 100000 in
theorem differences_any (v : Value) (l : List Int) (w : World) (h : Rd w w.heap.size v (l.map vi)) (hi : ∀ x ∈ l, I64 x) (hl : l.length ≤ 1000000000) :
    Calls Tryd.prog 80 #[v] w fun e w' => ∃ v', e = .returned v' ∧ Mine w' w.heap.size 3 v' ((diffs 0 l).map vi) ∧ Grew w w' := by
  obtain ⟨A, n, c, rfl, hn, hc⟩ := h.form
  rw [List.length_map] at hn
  have hnl : n ≤ 1000000000 := by omega
  have HN := Lib.hid hn
  have HI := Lib.hid hi
  have H := Lib.hid h
  clear hn hi h
  go_enter Tryd.func80, Tryd.ntmps80
  go_wp2_with fail
  go_loopw [3, 4] (fun a i wr => ∃ (j m : Nat) (A : Option Addr) (c : Nat), j ≤ n ∧ i = .int .i64 j ∧ a = .slice A m c ∧ Mine wr w.heap.size 3 (.slice A m c) (((diffs 0 l).take j).map vi) ∧ Grew w wr) (fun _ i _ => n - (intOf i).toNat)
  case atStart => exact ⟨0, 0, none, 0, by omega, rfl, rfl, by simpa using Mine.nil w w.heap.size 3, Grew.refl _⟩
  case round =>
    obtain ⟨j, m, B, d, hj, rfl, rfl, hM, hG⟩ := hrel
    have hsz := hG.size
    by_cases hlt : j < n
    · have hjl : j < l.length := by rw [← HN.out]; exact hlt
      have hR := H.out.grew (Nat.le_refl _) hG
      have hst := diffs_take 0 l j hjl
      have HST := Lib.hid hst
      have hbl : (((diffs 0 l).take j).map vi).length < 1099511627776 := by
        rw [List.length_map, List.length_take, diffs_length]; omega
      obtain ⟨ad, rfl, hadb, hc0⟩ := hR.int_at hjl
      have hx := getD_I64 HI.out j
      have fin : ∀ (y : Int) (r q cap : Nat) (w1 : World), y = wrap64 (l.getD j 0 - (0 :: l).getD j 0) → Mine w1 w.heap.size 3 (.slice (some ⟨r, 0, none⟩) q cap) (((diffs 0 l).take j).map vi ++ [.int .i64 y]) → Mine w1 w.heap.size 3 (.slice (some ⟨r, 0, none⟩) q cap) (((diffs 0 l).take (j + 1)).map vi) := by
        intro y r q cap w1 hy hq
        rw [HST.out, List.map_append, ← hy]
        exact hq
      have FIN := Lib.hid fin
      clear hst fin
      rcases Nat.lt_or_ge j 1 with h1 | h1
      · obtain rfl : j = 0 := by omega
        have hy : l.getD 0 0 = wrap64 (l.getD 0 0 - (0 :: l).getD 0 0) := by
          show l.getD 0 0 = wrap64 (l.getD 0 0 - 0)
          rw [Int.sub_zero, wrap_of hx]
        have HY := Lib.hid hy
        clear hy hx hR
        generalize l.getD 0 0 = x at *
        simp only [Addr.add, if_true] at hc0
        go_wp2_with (at_builtin; refine app_one slInt rfl (.tmp 25) (.tmp 27) rfl rfl (hM.alloc _) wr.heap.size 1 (.int .i64 x) rfl (Nat.le_refl _) (by simp) (by simp) rfl hbl (by simp; omega) ?_)
        intro r cap w1 hM1 hk1 hr hbr hlr
        have hG1 : Grew w w1 := (hG.alloc _).app (hM.alloc _) hk1
        have HM2 := Lib.hid (FIN.out _ r _ cap w1 HY.out (by simpa using hM1))
        clear hM1 hk1 hM hbl
        go_wp2_with fail
        go_roundw
        case rel => exact ⟨1, _, _, _, by omega, by go_num, rfl, HM2.out, hG1⟩
        case measure => simp [intOf]; omega
      · obtain ⟨ad', hA, _, hc1⟩ := hR.int_at (j := j - 1) (by omega)
        injection hA with hA
        subst hA
        have hy : wrap64 (l.getD j 0 - l.getD (j - 1) 0) = wrap64 (l.getD j 0 - (0 :: l).getD j 0) := by
          obtain ⟨q, rfl⟩ : ∃ q, j = q + 1 := ⟨j - 1, by omega⟩
          rw [List.getD_cons_succ]; rfl
        have HY := Lib.hid hy
        clear hy hx hR
        generalize l.getD j 0 = y at *
        generalize l.getD (j - 1) 0 = x at *
        go_wp2_with (at_builtin; refine app_one slInt rfl (.tmp 25) (.tmp 27) rfl rfl (hM.alloc _) wr.heap.size 1 (.int .i64 (wrap64 (y - x))) rfl (Nat.le_refl _) (by simp) (by simp) rfl hbl (by simp; omega) ?_)
        intro r cap w1 hM1 hk1 hr hbr hlr
        have hG1 : Grew w w1 := (hG.alloc _).app (hM.alloc _) hk1
        have HM2 := Lib.hid (FIN.out _ r _ cap w1 HY.out (by simpa using hM1))
        clear hM1 hk1 hM hbl
        go_wp2_with fail
        go_roundw
        case rel => exact ⟨j + 1, _, _, _, by omega, by go_num, rfl, HM2.out, hG1⟩
        case measure => simp [intOf]; omega
    · obtain rfl : j = n := by omega
      have hall : (diffs 0 l).take j = diffs 0 l := List.take_of_length_le (by rw [diffs_length, ← HN.out]; omega)
      rw [hall] at hM
      clear hall
      go_wp2_with fail
      go_ret
      exact ⟨_, rfl, hM, hG⟩
end Go.Proofs.YtjiiiimhegkklaaDoor
