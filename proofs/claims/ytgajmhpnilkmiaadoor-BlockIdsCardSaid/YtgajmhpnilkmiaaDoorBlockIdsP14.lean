/- A slice of claims that came in, opened. block.valid: whether a block is valid. The table of parameters, from what the row lays. The plain law of the hash: words of bytes, and how they are mixed. hash.mix. -/
import Derived.Test.YtgajmhpnilkmiaaDoorBlockIdsP05
import Derived.Test.YtgajmhpnilkmiaaDoorBlockIdsP13
import Derived.Deep.Slices
import Derived.Deep.Fields
import Derived.Lib.SmallJoins
import Derived.Deep.DeepCutAuto
import Derived.Deep.QuietTactic
import Derived.BigQuiet
import Derived.Test.YtgajmhpnilkmiaaDoorBlockIdsP04
import Derived.Test.YtgajmhpnilkmiaaDoorProg
namespace Go.Proofs.YtgajmhpnilkmiaaDoor
open Go.ChangeShapes Go.WideShapes Go.ChangeAt Go.RowKit Pl Go.Deep

theorem cellsClaim : Tryd.prog.cellsOf 116 = 4 := by kernel_rfl
set_option maxRecDepth 100000 in
theorem claim_cells {H : Type} {enc : TypeId × Value → H} {W : World} {n : Nat} {cs : List Value} {x : DataW H × List MemPlace}
    (h : DataW.trod enc Tryd.prog W 0 (fun _ => true) true n 116 cs = some x) : ∃ c : Clm, cs = cells4 c := by
  obtain ⟨xs, m, _, _, hl, hxl, hf⟩ := DataW.trod_struct Tryd.underlying116 h
  rw [cellsClaim] at hl
  obtain ⟨v0, v1, v2, v3, rfl⟩ : ∃ v0 v1 v2 v3, cs = [v0, v1, v2, v3] := by
    rcases cs with _ | ⟨v0, _ | ⟨v1, _ | ⟨v2, _ | ⟨v3, _ | ⟨v4, r⟩⟩⟩⟩⟩ <;> simp at hl
    exact ⟨v0, v1, v2, v3, rfl⟩
  have hx4 : xs.length = 4 := hxl
  have g0 : DataW.trod enc Tryd.prog W 0 (fun _ => true) true m 3 [v0] = some (xs[0]'(by omega)) := by
    have := hf 0 _ rfl
    rw [List.getElem?_eq_getElem (by omega)] at this
    simpa [cellsInt] using this
  obtain ⟨n0, e0, -⟩ := DataW.trod_int Tryd.underlying3 g0
  obtain rfl : v0 = .int .i64 n0 := by simpa using e0
  have g1 : DataW.trod enc Tryd.prog W 0 (fun _ => true) true m 3 [v1] = some (xs[1]'(by omega)) := by
    have := hf 1 _ rfl
    rw [List.getElem?_eq_getElem (by omega)] at this
    simpa [cellsInt] using this
  obtain ⟨n1, e1, -⟩ := DataW.trod_int Tryd.underlying3 g1
  obtain rfl : v1 = .int .i64 n1 := by simpa using e1
  have g2 : DataW.trod enc Tryd.prog W 0 (fun _ => true) true m 3 [v2] = some (xs[2]'(by omega)) := by
    have := hf 2 _ rfl
    rw [List.getElem?_eq_getElem (by omega)] at this
    simpa [cellsInt] using this
  obtain ⟨n2, e2, -⟩ := DataW.trod_int Tryd.underlying3 g2
  obtain rfl : v2 = .int .i64 n2 := by simpa using e2
  have g3 : DataW.trod enc Tryd.prog W 0 (fun _ => true) true m 3 [v3] = some (xs[3]'(by omega)) := by
    have := hf 3 _ rfl
    rw [List.getElem?_eq_getElem (by omega)] at this
    simpa [cellsInt] using this
  obtain ⟨n3, e3, -⟩ := DataW.trod_int Tryd.underlying3 g3
  obtain rfl : v3 = .int .i64 n3 := by simpa using e3
  exact ⟨(n0, n1, n2, n3), rfl⟩
theorem claims_of {H : Type} {enc : TypeId × Value → H} {W : World} {a : Option Addr} {len cap : Nat} {d : DataW H} {p : List MemPlace}
    (h : DataW.Trod enc Tryd.prog W 0 (fun _ => true) true 53 (.slice a len cap) d p) : ∃ cs : List Clm, RdG W W.heap.size (.slice a len cap) cs := by
  obtain ⟨fuel, hf⟩ := h
  rcases open_slice Tryd.underlying53 hf with ⟨hcs, _⟩ | ⟨x, l, c, m, n, D, Pl, hcs, _, hl, _, hm, _, hi⟩
  · simp [Value.cells] at hcs
    obtain ⟨rfl, rfl, rfl⟩ := hcs
    exact ⟨[], none, 0, rfl, Nat.le_refl _, fun h => absurd h (by simp)⟩
  · simp [Value.cells] at hcs
    obtain ⟨rfl, rfl, rfl⟩ := hcs
    simp only [if_true] at hm
    have hc : ∀ i, i < len → ∃ c : Clm, ∀ k, k < 4 → W.cell? (x.add (i * 4 + k)) = (cells4 c)[k]? := by
      intro i hil
      obtain ⟨cs', hc, ht⟩ := hi i (by omega)
      obtain ⟨c, rfl⟩ := claim_cells ht
      rw [cellsClaim] at hc
      obtain ⟨_, _, hat⟩ := World.cells?_some hc
      exact ⟨c, fun k hk => by rw [← hat k hk, Go.Deep.add_add]⟩
    have hc' : ∀ i, ∃ c : Clm, i < len → ∀ k, k < 4 → W.cell? (x.add (i * 4 + k)) = (cells4 c)[k]? := fun i => by
      by_cases h : i < len
      · obtain ⟨c, h1⟩ := hc i h
        exact ⟨c, fun _ => h1⟩
      · exact ⟨zc, fun h1 => absurd h1 h⟩
    have hch := Classical.axiomOfChoice hc'
    obtain ⟨f, hff⟩ := hch
    have hlen : ((List.range len).map f).length = len := by simp
    refine ⟨(List.range len).map f, some x, cap, by rw [hlen], by rw [hlen]; exact hl, fun h0 => ⟨x, rfl, ?_, fun j u hu => ?_⟩⟩
    · have h1 := hff 0 (by omega) 0 (by omega)
      have h2 : (cells4 (f 0))[0]? = some (.int .i64 (f 0).1) := rfl
      rw [h2] at h1
      have := cell_lt h1
      rwa [block_add] at this
    · have hj : j < len * 4 := by
        have := (List.getElem?_eq_some_iff.1 hu).1
        rwa [flat_length, hlen] at this
      have e : j = j / 4 * 4 + j % 4 := by omega
      have hq : j / 4 < len := by omega
      have h1 := hff (j / 4) hq (j % 4) (by omega)
      rw [e, flat_at (by rw [hlen]; exact hq) (by omega)] at hu
      rw [e, h1, ← hu]
      congr 2
      simp [List.getD_eq_getElem?_getD, hq]
/- a claim that came in by value -/
set_option maxRecDepth 100000 in
theorem claim_of {H : Type} {enc : TypeId × Value → H} {W : World} {b0 : Nat} {v : Value} {d : DataW H} {p : List MemPlace} (hv : Value.okWide Tryd.prog W .any b0 116 v)
    (h : DataW.Trod enc Tryd.prog W 0 (fun _ => true) true 116 v d p) :
    ∃ c : Clm, v = .agg #[.int .i64 c.1, .int .i64 c.2.1, .int .i64 c.2.2.1, .int .i64 c.2.2.2] ∧ I64 c.1 ∧ I64 c.2.1 ∧ I64 c.2.2.1 ∧ I64 c.2.2.2 := by
  obtain ⟨v0, v1, v2, v3, y0, y1, y2, y3, n, rfl, _, _, t0, t1, t2, t3⟩ := Go.Joins.open_agg4 Tryd.underlying116 (by kernel_rfl) cellsClaim hv h
  obtain ⟨n0, e0, _, w0⟩ := DataW.trod_int Tryd.underlying3 t0
  obtain ⟨n1, e1, _, w1⟩ := DataW.trod_int Tryd.underlying3 t1
  obtain ⟨n2, e2, _, w2⟩ := DataW.trod_int Tryd.underlying3 t2
  obtain ⟨n3, e3, _, w3⟩ := DataW.trod_int Tryd.underlying3 t3
  obtain rfl : v0 = .int .i64 n0 := by simpa using e0
  obtain rfl : v1 = .int .i64 n1 := by simpa using e1
  obtain rfl : v2 = .int .i64 n2 := by simpa using e2
  obtain rfl : v3 = .int .i64 n3 := by simpa using e3
  exact ⟨(n0, n1, n2, n3), rfl, i64_of_wf w0, i64_of_wf w1, i64_of_wf w2, i64_of_wf w3⟩
end Go.Proofs.YtgajmhpnilkmiaaDoor
namespace Go.Proofs.YtgajmhpnilkmiaaDoor
open Go.RowKit Pl

/- the least and the greatest parameter of a kind -/
def pLo (k : Nat) : Int := if k = 1 ∨ k = 3 then 1 else 0
def pHi (k : Nat) : Int := if k = 0 then 0 else if k = 1 ∨ k = 2 then 1073741824 else if k = 3 then 4096 else 1048576
/- the table of parameters, below block B -/
def PTab (w : World) (B : Nat) : Prop := 1 < B ∧ ∀ k, k < 5 → w.cell? ⟨1, k * 2, none⟩ = some (.int .i64 (pLo k)) ∧ w.cell? ⟨1, k * 2 + 1, none⟩ = some (.int .i64 (pHi k))
theorem PTab.keep {w w' : World} {B : Nat} {S : Nat → Prop} (h : PTab w B) (hk : Keeps S w w') (hs : ∀ i, i < B → ¬ S i) : PTab w' B := by
  have hb : w'.heap[1]? = w.heap[1]? := hk.block _ (World.block_lt_of_cell? w ⟨1, 0 * 2, none⟩ (h.2 0 (by omega)).1) (hs _ h.1)
  exact ⟨h.1, fun k hk => ⟨(World.cell?_of_block (a := ⟨1, k * 2, none⟩) hb).trans (h.2 k hk).1, (World.cell?_of_block (a := ⟨1, k * 2 + 1, none⟩) hb).trans (h.2 k hk).2⟩⟩
theorem PTab.grew {w w' : World} {B : Nat} (h : PTab w B) (hk : Grew w w') : PTab w' B := h.keep hk fun _ _ e => e
theorem PTab.more {w : World} {B B' : Nat} (h : PTab w B) (hB : B ≤ B') : PTab w B' := ⟨Nat.lt_of_lt_of_le h.1 hB, h.2⟩
theorem PTab.on {w w' : World} (h : PTab w w.heap.size) (hk : Grew w w') : PTab w' w'.heap.size := (h.grew hk).more hk.size

/- series, kind, parameter, cost -/
def okB (x : Clm) : Prop := 0 ≤ x.1 ∧ x.1 < 4096 ∧ 0 ≤ x.2.1 ∧ x.2.1 ≤ 4 ∧ pLo x.2.1.toNat ≤ x.2.2.1 ∧ x.2.2.1 ≤ pHi x.2.1.toNat ∧ 0 ≤ x.2.2.2 ∧ x.2.2.2 ≤ 4398046511104 ∧ (x.2.1 ≠ 0 ∨ x.2.2.2 = 0)
instance (x : Clm) : Decidable (okB x) := by unfold okB; infer_instance
def vbl (x : Clm) (v : Value) : Value := .agg #[.int .i64 x.1, .int .i64 x.2.1, .int .i64 x.2.2.1, .int .i64 x.2.2.2, v]

set_option maxHeartbeats 12800000 in
set_option maxRecDepth 100000 in
theorem valid_any (x : Clm) (A : Option Addr) (n c : Nat) (w : World) (hp : PTab w w.heap.size) :
    Calls Tryd.prog 51 #[vbl x (.slice A n c)] w fun e w' => e = .returned (.bool (decide (okB x))) ∧ Grew w w' := by
  obtain ⟨s, k, p, co⟩ := x
  unfold vbl
  simp only
  have hb0 := Box.new w 59 #[.int .i64 s, .int .i64 k, .int .i64 p, .int .i64 co, .slice A n c]
  have hG0 : Grew w (w.alloc (.cells #[.int .i64 s, .int .i64 k, .int .i64 p, .int .i64 co, .slice A n c] 59)) := (Grew.refl w).alloc _
  have hp1 := hp.grew hG0
  obtain ⟨d, hd⟩ : ∃ d, d = decide (okB (s, k, p, co)) := ⟨_, rfl⟩
  rw [← hd]
  have HD := Lib.hid hd
  clear hd hp
  go_enter Tryd.func51, Tryd.ntmps51
  go_upto_region 1 with fail
  generalize w.alloc (.cells #[.int .i64 s, .int .i64 k, .int .i64 p, .int .i64 co, .slice A n c] 59) = w1 at *
  have c0 : w1.cell? ⟨w.heap.size, 0, none⟩ = some (.int .i64 s) := hb0.cell 0
  have c1 : w1.cell? ⟨w.heap.size, 1, none⟩ = some (.int .i64 k) := hb0.cell 1
  have c2 : w1.cell? ⟨w.heap.size, 2, none⟩ = some (.int .i64 p) := hb0.cell 2
  have c3 : w1.cell? ⟨w.heap.size, 3, none⟩ = some (.int .i64 co) := hb0.cell 3
  clear hb0
  have no : ∀ P : Prop, ¬ okB (s, k, p, co) → d = false := fun _ h => HD.out.trans (decide_eq_false h)
  have NO := Lib.hid no
  clear no
  by_cases h1 : s < 0
  · have t1 : decide (s < 0) = true := by simp [h1]
    obtain rfl := NO.out True (fun h => by unfold okB at h; simp only at h; omega)
    go_wp2_with fail
    go_ret
    exact ⟨rfl, hG0⟩
  have t1 : decide (s < 0) = false := by simp; omega
  by_cases h2 : 4096 ≤ s
  · have t2 : decide (4096 ≤ s) = true := by simp [h2]
    obtain rfl := NO.out True (fun h => by unfold okB at h; simp only at h; omega)
    clear h1
    go_wp2_with fail
    go_ret
    exact ⟨rfl, hG0⟩
  have t2 : decide (4096 ≤ s) = false := by simp; omega
  by_cases h3 : k < 0
  · have t3 : decide (k < 0) = true := by simp [h3]
    obtain rfl := NO.out True (fun h => by unfold okB at h; simp only at h; omega)
    clear h1 h2
    go_wp2_with fail
    go_ret
    exact ⟨rfl, hG0⟩
  have t3 : decide (k < 0) = false := by simp; omega
  by_cases h4 : 4 < k
  · have t4 : decide (4 < k) = true := by simp [h4]
    obtain rfl := NO.out True (fun h => by unfold okB at h; simp only at h; omega)
    clear h1 h2 h3
    go_wp2_with fail
    go_ret
    exact ⟨rfl, hG0⟩
  have t4 : decide (4 < k) = false := by simp; omega
  obtain ⟨kn, rfl⟩ : ∃ kn : Nat, k = (kn : Int) := ⟨k.toNat, by omega⟩
  have hk5 : kn < 5 := by omega
  obtain ⟨pl, ph⟩ := hp1.2 kn hk5
  have i0 : (0 : Int) ≤ (kn : Int) := by omega
  have i5 : (kn : Int) < 5 := by omega
  have hokI : okB (s, (kn : Int), p, co) ↔ (pLo kn ≤ p ∧ p ≤ pHi kn ∧ 0 ≤ co ∧ co ≤ 4398046511104 ∧ ((kn : Int) ≠ 0 ∨ co = 0)) := by
    unfold okB; simp only [Int.toNat_natCast]; omega
  have HOK := Lib.hid hokI
  clear hokI h1 h2 h3 h4
  generalize pLo kn = lo at *
  generalize pHi kn = hi at *
  by_cases h5 : p < lo
  · have t5 : decide (p < lo) = true := by simp [h5]
    obtain rfl := NO.out True (fun h => by have := HOK.out.1 h; omega)
    clear h5
    go_wp2_with fail
    go_quiet (fail)
    go_wp2_with fail
    go_ret
    exact ⟨rfl, Keeps.drewN hG0 _⟩
  have t5 : decide (p < lo) = false := by simp; omega
  by_cases h6 : hi < p
  · have t6 : decide (hi < p) = true := by simp [h6]
    obtain rfl := NO.out True (fun h => by have := HOK.out.1 h; omega)
    clear h5 h6
    go_wp2_with fail
    go_quiet (fail)
    go_wp2_with fail
    go_ret
    exact ⟨rfl, Keeps.drewN hG0 _⟩
  have t6 : decide (hi < p) = false := by simp; omega
  by_cases h7 : co < 0
  · have t7 : decide (0 ≤ co) = false := by simp; omega
    obtain rfl := NO.out True (fun h => by have := HOK.out.1 h; omega)
    clear h5 h6 h7
    go_wp2_with fail
    go_quiet (fail)
    go_wp2_with fail
    go_ret
    exact ⟨rfl, Keeps.drewN hG0 _⟩
  have t7 : decide (0 ≤ co) = true := by simp; omega
  by_cases h8 : 4398046511104 < co
  · have t8 : decide (co ≤ 4398046511104) = false := by simp; omega
    obtain rfl := NO.out True (fun h => by have := HOK.out.1 h; omega)
    clear h5 h6 h7 h8
    go_wp2_with fail
    go_quiet (fail)
    go_wp2_with fail
    go_ret
    exact ⟨rfl, Keeps.drewN hG0 _⟩
  have t8 : decide (co ≤ 4398046511104) = true := by simp; omega
  by_cases h9 : kn = 0
  · have t9 : ((kn : Int) != 0) = false := by rw [bne_eq_false_iff_eq]; omega
    by_cases h10 : co = 0
    · have t10 : (co == 0) = true := by rw [beq_iff_eq]; exact h10
      obtain rfl : d = true := HD.out.trans (decide_eq_true (HOK.out.2 (by omega)))
      clear h5 h6 h7 h8 h9 h10
      go_wp2_with fail
      go_quiet (fail)
      go_wp2_with fail
      go_ret
      exact ⟨rfl, Keeps.drewN hG0 _⟩
    · have t10 : (co == 0) = false := by rw [beq_eq_false_iff_ne]; exact h10
      obtain rfl := NO.out True (fun h => by have := HOK.out.1 h; omega)
      clear h5 h6 h7 h8 h9 h10
      go_wp2_with fail
      go_quiet (fail)
      go_wp2_with fail
      go_ret
      exact ⟨rfl, Keeps.drewN hG0 _⟩
  · have t9 : ((kn : Int) != 0) = true := by rw [bne_iff_ne]; omega
    obtain rfl : d = true := HD.out.trans (decide_eq_true (HOK.out.2 (by omega)))
    clear h5 h6 h7 h8 h9
    go_wp2_with fail
    go_quiet (fail)
    go_wp2_with fail
    go_ret
    exact ⟨rfl, Keeps.drewN hG0 _⟩
end Go.Proofs.YtgajmhpnilkmiaaDoor
namespace Go.Proofs.YtgajmhpnilkmiaaDoor
open Go.ChangeShapes Go.WideShapes Go.ChangeAt Go.RowKit Pl

theorem gPar : Tryd.prog.globalNamed "intervalmon/block.params" = some 1 := by kernel_rfl
theorem gParType : (Tryd.prog.globals[1]?).map (·.type) = some 143 := by kernel_rfl
theorem cellsPar : Tryd.prog.cellsOf 143 = 10 := by kernel_rfl
theorem cellsPar2 : Tryd.prog.cellsOf 142 = 2 := by kernel_rfl
def parRows : List (List Int) := [[0, 0], [1, 1073741824], [0, 1073741824], [1, 4096], [0, 1048576]]
theorem cells_of_tab2 {w : World} {sp : Nat → Bool} {held : Bool} {fuel : Nat} {cs : List Value} {p : List MemPlace}
    (h : DataW.trod (fun _ => ()) Tryd.prog w 0 sp held fuel 143 cs = some (.agg (parRows.map fun zs => Lib.tabData .i64 zs), p)) :
    ∀ k, k < 5 → (cs.drop (k * 2)).take 2 = (parRows.getD k []).map fun z => Value.int .i64 z := by
  cases fuel with
  | zero => simp [DataW.trod] at h
  | succ fuel =>
    simp only [DataW.trod, Tryd.underlying143, cellsPar, cellsPar2] at h
    split at h
    · obtain ⟨xs, hm, hx⟩ := Option.map_eq_some_iff.1 h
      have hxs : xs.map (·.1) = parRows.map fun zs => (Lib.tabData .i64 zs : DataW Unit) := by
        have := congrArg Prod.fst hx
        simpa using this
      intro k hk
      obtain ⟨b, hb, hf⟩ := Lib.mapM_at hm k k (by simp [hk])
      have h2 : (xs.map (·.1))[k]? = some b.1 := by simp [hb]
      rw [hxs] at h2
      have hk5 : k < parRows.length := hk
      rw [List.getElem?_map, List.getElem?_eq_getElem hk5] at h2
      have h3 : b.1 = Lib.tabData .i64 parRows[k] := (Option.some.inj h2).symm
      obtain ⟨b1, b2⟩ := b
      simp only at h3
      subst h3
      have := Lib.cells_of_tab Tryd.underlying142 Tryd.underlying3 cellsInt cellsPar2 hf
      rw [this, List.getD_eq_getElem?_getD, List.getElem?_eq_getElem hk5]
      rfl
    · cases h
theorem params_of {W : World} {a : String × DataW Unit} {rest : List (String × DataW Unit)} (h : laidMet Tryd.prog (a :: ("intervalmon/block.params", Rows.laid_intervalmon_block_params) :: rest) W) : PTab W W.heap.size := by
  obtain ⟨ps, ⟨_, _, _, _, _, q, _, _, _, _, ⟨g', t', cs, fuel, p, q', hg', ht', hvar, hd, _, _⟩, _⟩, _⟩ := h
  obtain rfl := Option.some.inj (gPar.symm.trans hg')
  obtain rfl := Option.some.inj (gParType.symm.trans ht')
  have hc := cells_of_tab2 (p := p) hd
  have hcell : ∀ k, k < 5 → W.cell? ⟨1, k * 2, none⟩ = some (.int .i64 (pLo k)) ∧ W.cell? ⟨1, k * 2 + 1, none⟩ = some (.int .i64 (pHi k)) := by
    intro k hk
    have h1 := hc k hk
    have a0 : cs.toList[k * 2]? = ((parRows.getD k []).map fun z => Value.int .i64 z)[0]? := by
      rw [← h1, List.getElem?_take, if_pos (by omega), List.getElem?_drop]; rfl
    have a1 : cs.toList[k * 2 + 1]? = ((parRows.getD k []).map fun z => Value.int .i64 z)[1]? := by
      rw [← h1, List.getElem?_take, if_pos (by omega), List.getElem?_drop]
    rw [World.var?_cell gPar hvar, World.var?_cell gPar hvar, ← Array.getElem?_toList, ← Array.getElem?_toList, a0, a1]
    have : k = 0 ∨ k = 1 ∨ k = 2 ∨ k = 3 ∨ k = 4 := by omega
    rcases this with rfl | rfl | rfl | rfl | rfl <;> exact ⟨rfl, rfl⟩
  exact ⟨cell_lt (hcell 0 (by omega)).1, hcell⟩
end Go.Proofs.YtgajmhpnilkmiaaDoor
namespace Go.Proofs.YtgajmhpnilkmiaaDoor.Pl
open Go.RowKit

def mixN (s w : Nat) : Nat := ((s ^^^ w) * 11400714819323198485 % 18446744073709551616) ^^^ ((s ^^^ w) * 11400714819323198485 % 18446744073709551616 / 4294967296)
theorem mixN_lt (s w : Nat) : mixN s w < 18446744073709551616 := by
  unfold mixN
  generalize (s ^^^ w) * 11400714819323198485 = m
  have h1 : m % 18446744073709551616 < 2 ^ 64 := by omega
  have h2 : m % 18446744073709551616 / 4294967296 < 2 ^ 64 := by omega
  have := Nat.xor_lt_two_pow h1 h2
  omega
/- bytes, the least significant first -/
def leN : List Nat → Nat
  | [] => 0
  | x :: l => x + 256 * leN l
theorem leN_lt (l : List Nat) (h : Bytes l) : leN l < 256 ^ l.length := by
  induction l with
  | nil => simp [leN]
  | cons x l ih =>
    have h1 := h x (by simp)
    have h2 := ih (fun y hy => h y (by simp [hy]))
    rw [leN, List.length_cons, Nat.pow_succ]
    omega
theorem leN_snoc (l : List Nat) (x : Nat) : leN (l ++ [x]) = leN l + x * 256 ^ l.length := by
  induction l with
  | nil => simp [leN]
  | cons y l ih =>
    rw [List.cons_append, leN, leN, ih, List.length_cons, Nat.pow_succ, Nat.mul_add, ← Nat.add_assoc]
    congr 1
    rw [← Nat.mul_assoc, Nat.mul_comm 256 x, Nat.mul_assoc, Nat.mul_comm 256]
def chunk (bs : List Nat) (i : Nat) : List Nat := (bs.drop (8 * i)).take 8
theorem chunk_le (bs : List Nat) (i : Nat) : (chunk bs i).length ≤ 8 := List.length_take_le _ _
theorem chunk_length (bs : List Nat) (i : Nat) : (chunk bs i).length = min 8 (bs.length - 8 * i) := by unfold chunk; rw [List.length_take, List.length_drop]
theorem chunk_bytes {bs : List Nat} (h : Bytes bs) (i : Nat) : Bytes (chunk bs i) := fun x hx => h x (List.mem_of_mem_drop (List.mem_of_mem_take hx))
theorem chunk_lt {bs : List Nat} (h : Bytes bs) (i : Nat) : leN (chunk bs i) < 18446744073709551616 := by
  have h1 := leN_lt _ (chunk_bytes h i)
  have h2 : 256 ^ (chunk bs i).length ≤ 256 ^ 8 := Nat.pow_le_pow_right (by omega) (chunk_le bs i)
  have h3 : (256 : Nat) ^ 8 = 18446744073709551616 := by decide
  omega
def nwords (bs : List Nat) : Nat := (bs.length + 7) / 8
def words (bs : List Nat) : List Nat := (List.range (nwords bs)).map fun i => leN (chunk bs i)
theorem words_length (bs : List Nat) : (words bs).length = nwords bs := by simp [words]
theorem words_lt {bs : List Nat} (h : Bytes bs) : ∀ x ∈ words bs, x < 18446744073709551616 := fun x hx => by
  unfold words at hx
  obtain ⟨i, _, rfl⟩ := List.mem_map.1 hx
  exact chunk_lt h i
theorem words_take (bs : List Nat) (j : Nat) (hj : j < nwords bs) : (words bs).take (j + 1) = (words bs).take j ++ [leN (chunk bs j)] := by
  rw [List.take_succ_eq_append_getElem (by rw [words_length]; exact hj)]
  simp [words]
theorem chunk_take (bs : List Nat) (i t : Nat) (ht : t < 8) (h : 8 * i + t < bs.length) : (chunk bs i).take (t + 1) = (chunk bs i).take t ++ [bs.getD (8 * i + t) 0] := by
  have e : (chunk bs i)[t]? = some (bs.getD (8 * i + t) 0) := by
    unfold chunk
    rw [List.getElem?_take, if_pos ht, List.getElem?_drop, List.getD_eq_getElem?_getD, List.getElem?_eq_getElem h]
    rfl
  rw [List.take_add_one, e]
  rfl
theorem or_shift (a x k : Nat) (h : a < 2 ^ k) : a ||| (x * 2 ^ k) = a + x * 2 ^ k := by
  have := Nat.shiftLeft_add_eq_or_of_lt h x
  rw [Nat.shiftLeft_eq] at this
  rw [Nat.or_comm, ← this, Nat.add_comm]
/- the hash of a label and words; of a label and bytes -/
def mixAll (s : Nat) (l : List Nat) : Nat := l.foldl mixN s
theorem mixAll_nil (s : Nat) : mixAll s [] = s := by unfold mixAll; rw [List.foldl_nil]
theorem mixAll_snoc (s : Nat) (l : List Nat) (x : Nat) : mixAll s (l ++ [x]) = mixN (mixAll s l) x := by
  unfold mixAll
  rw [List.foldl_append, List.foldl_cons, List.foldl_nil]
def hashSum (label ws : List Nat) : Nat := mixN (mixAll (mixN (mixN (mixAll 0 (words label)) label.length) ws.length) ws) 0
def hashB (label bs : List Nat) : Nat := hashSum label (words bs ++ [bs.length])
theorem hashB_lt (label bs : List Nat) : hashB label bs < 18446744073709551616 := mixN_lt _ _
end Go.Proofs.YtgajmhpnilkmiaaDoor.Pl
namespace Go.Proofs.YtgajmhpnilkmiaaDoor
open Go.RowKit Pl

set_option maxRecDepth 100000 in
theorem mix_any (s x : Nat) (w : World) (hs : s < 18446744073709551616) (hx : x < 18446744073709551616) :
    Calls Tryd.prog 110 #[.int .u64 (s : Nat), .int .u64 (x : Nat)] w fun e w' => e = .returned (.int .u64 (mixN s x : Nat)) ∧ w = w' := by
  have h1 := u64_xor_nat s x hs hx
  have hf : bits BinOp.xor IntKind.u64 (((s ^^^ x : Nat) : Int) * 11400714819323198485 % 18446744073709551616) (((s ^^^ x : Nat) : Int) * 11400714819323198485 % 18446744073709551616 / 4294967296) = ((mixN s x : Nat) : Int) := by
    unfold mixN
    generalize s ^^^ x = y
    have e1 : (y : Int) * 11400714819323198485 % 18446744073709551616 = ((y * 11400714819323198485 % 18446744073709551616 : Nat) : Int) := by omega
    rw [e1]
    have hm : y * 11400714819323198485 % 18446744073709551616 < 18446744073709551616 := by omega
    generalize y * 11400714819323198485 % 18446744073709551616 = m at *
    have e2 : (m : Int) / 4294967296 = ((m / 4294967296 : Nat) : Int) := by omega
    rw [e2, u64_xor_nat _ _ hm (by omega)]
  have HF := Lib.hid hf
  clear hf
  go_enter Tryd.func110, Tryd.ntmps110
  go_wp2_with fail
  go_ret
  exact ⟨by rw [← HF.out]; rfl, rfl⟩
end Go.Proofs.YtgajmhpnilkmiaaDoor
