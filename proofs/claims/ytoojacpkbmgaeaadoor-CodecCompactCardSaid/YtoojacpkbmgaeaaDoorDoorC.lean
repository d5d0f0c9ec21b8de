/- A slice of claims that came in, opened. -/
import Derived.Test.YtoojacpkbmgaeaaDoorDoorR
import Derived.Test.YtoojacpkbmgaeaaDoorRowG
import Derived.Deep.Slices
import Derived.Deep.Fields
import Derived.Lib.SmallJoins
namespace Go.Proofs.YtoojacpkbmgaeaaDoor
open Go.ChangeShapes Go.WideShapes Go.ChangeAt Go.RowKit Pl Go.Deep

theorem cellsClaim : Tryd.prog.cellsOf 24 = 4 := by kernel_rfl
set_option maxRecDepth 100000 in
theorem claim_cells {H : Type} {enc : TypeId × Value → H} {W : World} {n : Nat} {cs : List Value} {x : DataW H × List MemPlace}
    (h : DataW.trod enc Tryd.prog W 0 (fun _ => true) true n 24 cs = some x) : ∃ c : Clm, cs = cells4 c := by
  obtain ⟨xs, m, _, _, hl, hxl, hf⟩ := DataW.trod_struct Tryd.underlying24 h
  rw [cellsClaim] at hl
  obtain ⟨v0, v1, v2, v3, rfl⟩ : ∃ v0 v1 v2 v3, cs = [v0, v1, v2, v3] := by
    rcases cs with _ | ⟨v0, _ | ⟨v1, _ | ⟨v2, _ | ⟨v3, _ | ⟨v4, r⟩⟩⟩⟩⟩ <;> simp at hl
    exact ⟨v0, v1, v2, v3, rfl⟩
  have hx4 : xs.length = 4 := hxl
  have g0 : DataW.trod enc Tryd.prog W 0 (fun _ => true) true m 3 [v0] = some (xs[0]'(by omega)) := by
    have := hf 0 _ rfl
    rw [List.getElem?_eq_getElem (by omega)] at this
    simpa [cellsInt] using this
  obtain ⟨n0, e0, -⟩ := DataW.trod_int Tryd.underlying3 g0
  obtain rfl : v0 = .int .i64 n0 := by simpa using e0
  have g1 : DataW.trod enc Tryd.prog W 0 (fun _ => true) true m 3 [v1] = some (xs[1]'(by omega)) := by
    have := hf 1 _ rfl
    rw [List.getElem?_eq_getElem (by omega)] at this
    simpa [cellsInt] using this
  obtain ⟨n1, e1, -⟩ := DataW.trod_int Tryd.underlying3 g1
  obtain rfl : v1 = .int .i64 n1 := by simpa using e1
  have g2 : DataW.trod enc Tryd.prog W 0 (fun _ => true) true m 3 [v2] = some (xs[2]'(by omega)) := by
    have := hf 2 _ rfl
    rw [List.getElem?_eq_getElem (by omega)] at this
    simpa [cellsInt] using this
  obtain ⟨n2, e2, -⟩ := DataW.trod_int Tryd.underlying3 g2
  obtain rfl : v2 = .int .i64 n2 := by simpa using e2
  have g3 : DataW.trod enc Tryd.prog W 0 (fun _ => true) true m 3 [v3] = some (xs[3]'(by omega)) := by
    have := hf 3 _ rfl
    rw [List.getElem?_eq_getElem (by omega)] at this
    simpa [cellsInt] using this
  obtain ⟨n3, e3, -⟩ := DataW.trod_int Tryd.underlying3 g3
  obtain rfl : v3 = .int .i64 n3 := by simpa using e3
  exact ⟨(n0, n1, n2, n3), rfl⟩
theorem claims_of {H : Type} {enc : TypeId × Value → H} {W : World} {a : Option Addr} {len cap : Nat} {d : DataW H} {p : List MemPlace}
    (h : DataW.Trod enc Tryd.prog W 0 (fun _ => true) true 25 (.slice a len cap) d p) : ∃ cs : List Clm, RdG W W.heap.size (.slice a len cap) cs := by
  obtain ⟨fuel, hf⟩ := h
  rcases open_slice Tryd.underlying25 hf with ⟨hcs, _⟩ | ⟨x, l, c, m, n, D, Pl, hcs, _, hl, _, hm, _, hi⟩
  · simp [Value.cells] at hcs
    obtain ⟨rfl, rfl, rfl⟩ := hcs
    exact ⟨[], none, 0, rfl, Nat.le_refl _, fun h => absurd h (by simp)⟩
  · simp [Value.cells] at hcs
    obtain ⟨rfl, rfl, rfl⟩ := hcs
    simp only [if_true] at hm
    have hc : ∀ i, i < len → ∃ c : Clm, ∀ k, k < 4 → W.cell? (x.add (i * 4 + k)) = (cells4 c)[k]? := by
      intro i hil
      obtain ⟨cs', hc, ht⟩ := hi i (by omega)
      obtain ⟨c, rfl⟩ := claim_cells ht
      rw [cellsClaim] at hc
      obtain ⟨_, _, hat⟩ := World.cells?_some hc
      exact ⟨c, fun k hk => by rw [← hat k hk, Go.Deep.add_add]⟩
    have hc' : ∀ i, ∃ c : Clm, i < len → ∀ k, k < 4 → W.cell? (x.add (i * 4 + k)) = (cells4 c)[k]? := fun i => by
      by_cases h : i < len
      · obtain ⟨c, h1⟩ := hc i h
        exact ⟨c, fun _ => h1⟩
      · exact ⟨zc, fun h1 => absurd h1 h⟩
    have hch := Classical.axiomOfChoice hc'
    obtain ⟨f, hff⟩ := hch
    have hlen : ((List.range len).map f).length = len := by simp
    refine ⟨(List.range len).map f, some x, cap, by rw [hlen], by rw [hlen]; exact hl, fun h0 => ⟨x, rfl, ?_, fun j u hu => ?_⟩⟩
    · have h1 := hff 0 (by omega) 0 (by omega)
      have h2 : (cells4 (f 0))[0]? = some (.int .i64 (f 0).1) := rfl
      rw [h2] at h1
      have := cell_lt h1
      rwa [block_add] at this
    · have hj : j < len * 4 := by
        have := (List.getElem?_eq_some_iff.1 hu).1
        rwa [flat_length, hlen] at this
      have e : j = j / 4 * 4 + j % 4 := by omega
      have hq : j / 4 < len := by omega
      have h1 := hff (j / 4) hq (j % 4) (by omega)
      rw [e, flat_at (by rw [hlen]; exact hq) (by omega)] at hu
      rw [e, h1, ← hu]
      congr 2
      simp [List.getD_eq_getElem?_getD, hq]
/- a claim that came in by value -/
set_option maxRecDepth 100000 in
theorem claim_of {H : Type} {enc : TypeId × Value → H} {W : World} {b0 : Nat} {v : Value} {d : DataW H} {p : List MemPlace} (hv : Value.okWide Tryd.prog W .any b0 24 v)
    (h : DataW.Trod enc Tryd.prog W 0 (fun _ => true) true 24 v d p) :
    ∃ c : Clm, v = .agg #[.int .i64 c.1, .int .i64 c.2.1, .int .i64 c.2.2.1, .int .i64 c.2.2.2] ∧ I64 c.1 ∧ I64 c.2.1 ∧ I64 c.2.2.1 ∧ I64 c.2.2.2 := by
  obtain ⟨v0, v1, v2, v3, y0, y1, y2, y3, n, rfl, _, _, t0, t1, t2, t3⟩ := Go.Joins.open_agg4 Tryd.underlying24 (by kernel_rfl) cellsClaim hv h
  obtain ⟨n0, e0, _, w0⟩ := DataW.trod_int Tryd.underlying3 t0
  obtain ⟨n1, e1, _, w1⟩ := DataW.trod_int Tryd.underlying3 t1
  obtain ⟨n2, e2, _, w2⟩ := DataW.trod_int Tryd.underlying3 t2
  obtain ⟨n3, e3, _, w3⟩ := DataW.trod_int Tryd.underlying3 t3
  obtain rfl : v0 = .int .i64 n0 := by simpa using e0
  obtain rfl : v1 = .int .i64 n1 := by simpa using e1
  obtain rfl : v2 = .int .i64 n2 := by simpa using e2
  obtain rfl : v3 = .int .i64 n3 := by simpa using e3
  exact ⟨(n0, n1, n2, n3), rfl, i64_of_wf w0, i64_of_wf w1, i64_of_wf w2, i64_of_wf w3⟩
end Go.Proofs.YtoojacpkbmgaeaaDoor
