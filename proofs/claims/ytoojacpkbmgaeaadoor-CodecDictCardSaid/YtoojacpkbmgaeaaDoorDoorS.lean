/- A slice of strings that came in, read as a list. -/
import Derived.Test.YtoojacpkbmgaeaaDoorDoor
import Derived.Test.YtoojacpkbmgaeaaDoorDict
import Derived.SliceStrings
namespace Go.Proofs.YtoojacpkbmgaeaaDoor
open Go.ChangeShapes Go.WideShapes Go.ChangeAt Go.RowKit Pl

theorem strs_of {H : Type} {enc : TypeId × Value → H} {W : World} {a : Option Addr} {len cap : Nat} {d : DataW H} {p : List MemPlace}
    (h : DataW.Trod enc Tryd.prog W 0 (fun _ => true) true 55 (.slice a len cap) d p) :
    ∃ ls : List Str, Rd W W.heap.size (.slice a len cap) (ls.map vs) ∧ ∀ s ∈ ls, s.length ≤ 9223372036854775807 := by
  obtain ⟨fuel, hf⟩ := h
  rcases open_strings Tryd.underlying55 Tryd.underlying9 (by kernel_rfl) hf with ⟨hcs, _⟩ | ⟨x, l, c, ss, hcs, _, hl, _, hz, _, hcell, hw⟩
  · simp [Value.cells] at hcs
    obtain ⟨rfl, rfl, rfl⟩ := hcs
    exact ⟨[], ⟨none, 0, rfl, Nat.le_refl _, fun h => absurd h (by simp)⟩, by simp⟩
  · simp [Value.cells] at hcs
    obtain ⟨rfl, rfl, rfl⟩ := hcs
    simp only [if_true] at hz
    have hn : ((ss.take len).map fun s : ByteArray => s.data.toList).length = len := by simp; omega
    refine ⟨(ss.take len).map fun s => s.data.toList, ?_, ?_⟩
    · have hn2 : (((ss.take len).map fun s : ByteArray => s.data.toList).map vs).length = len := by rw [List.length_map, hn]
      refine ⟨some x, cap, by rw [hn2], by rw [hn2]; exact hl, fun h0 => ⟨x, rfl, ?_, fun j u hu => ?_⟩⟩
      · have := cell_lt (hcell 0 (by omega))
        rwa [block_add] at this
      · have hj : j < len := by rw [← hn2]; exact (List.getElem?_eq_some_iff.1 hu).1
        have hjz : j < ss.length := by omega
        rw [hcell j hjz, ← hu]
        simp [hj, hjz, vs]
    · intro s hs
      obtain ⟨b, hb, rfl⟩ := List.mem_map.1 hs
      have := hw b (List.mem_of_mem_take hb)
      unfold maxLen at this
      show b.data.toList.length ≤ _
      rw [Array.length_toList]
      exact Nat.le_trans this (by decide)
end Go.Proofs.YtoojacpkbmgaeaaDoor
