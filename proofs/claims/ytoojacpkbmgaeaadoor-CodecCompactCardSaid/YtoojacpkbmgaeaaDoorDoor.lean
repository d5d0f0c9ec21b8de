/- What every law of the seat shares at its door: the tables, a world for the witness, and what an argument that came in reads as. -/
import Derived.Test.YtoojacpkbmgaeaaDoorCards
import Derived.Test.YtoojacpkbmgaeaaDoorTie
import Derived.Test.YtoojacpkbmgaeaaDoorWrite
import Derived.Test.YtoojacpkbmgaeaaDoorCInts
import Derived.WalkKit
import Derived.ProofKit
import Derived.OpenShut
import Derived.ShutString
import Derived.ChangeOld
import Derived.Below
import Derived.Deep.DeepHandedRow
import Derived.Lib.LaidTab
namespace Go.Proofs.YtoojacpkbmgaeaaDoor
open Go.ChangeShapes Go.WideShapes Go.ChangeAt Go.RowKit Pl
open Go.ChangeMaps (open_string shut_string)

theorem own : ownKnob Tryd.prog.godebug = none := by kernel_rfl
theorem laidOut : laidOutB Tryd.prog = true := by kernel_rfl
theorem gTab : Tryd.prog.globalNamed "intervalmon/codec.widths" = some 1 := by kernel_rfl
theorem gTabType : (Tryd.prog.globals[1]?).map (·.type) = some 149 := by kernel_rfl
theorem cellsTab : Tryd.prog.cellsOf 149 = 6 := by kernel_rfl
theorem cellsInt : Tryd.prog.cellsOf 3 = 1 := by kernel_rfl

theorem cell_lt {w : World} {a : Addr} {v : Value} (h : w.cell? a = some v) : a.block < w.heap.size := by
  rcases Nat.lt_or_ge a.block w.heap.size with h1 | h1
  · exact h1
  · simp [World.cell?, Array.getElem?_eq_none h1] at h
/- what a list of laid variables that begins with the widths gives -/
theorem widths_of {W : World} {rest : List (String × DataW Unit)} (h : laidMet Tryd.prog (("intervalmon/codec.widths", Rows.laid_intervalmon_codec_widths) :: rest) W) : Tab W W.heap.size := by
  have ht : Lib.TabIs Tryd.prog W "intervalmon/codec.widths" .i64 [0, 4, 8, 16, 32, 64] :=
    Lib.tabIs_of_head gTab gTabType Tryd.underlying149 Tryd.underlying3 cellsInt cellsTab h
  have hc : ∀ i, i < 6 → W.cell? ⟨1, i, none⟩ = some (.int .i64 (width i : Nat)) := by
    intro i hi
    rw [ht.cell gTab i (by simpa using hi)]
    match i, hi with
    | 0, _ => rfl
    | 1, _ => rfl
    | 2, _ => rfl
    | 3, _ => rfl
    | 4, _ => rfl
    | 5, _ => rfl
  exact ⟨cell_lt (hc 0 (by omega)), hc⟩

/- a world for a witness: the settled one, the tables holding what their initialisers lay -/
def relay (cs : Array Value) : Obj → Obj
  | .cells _ t frozen => .cells cs t frozen
  | o => o
noncomputable def laidWorld (os : Os) : World :=
  { World.holding Tryd.prog os ⟨#[], #[], []⟩ with heap := ((World.holding Tryd.prog os ⟨#[], #[], []⟩).heap.modify 1 (relay #[.int .i64 0, .int .i64 4, .int .i64 8, .int .i64 16, .int .i64 32, .int .i64 64])).modify 0 (relay #[.int .i64 0, .int .i64 0, .int .i64 1, .int .i64 1073741824, .int .i64 0, .int .i64 1073741824, .int .i64 1, .int .i64 4096, .int .i64 0, .int .i64 1048576]) }

/- a slice of integers that came in: nil, or a row of cells, each fitting its kind -/
def IsRow (k : IntKind) (w : World) (a : Option Addr) (len cap : Nat) (zs : List Int) : Prop :=
  (a = none ∧ len = 0 ∧ cap = 0 ∧ zs = []) ∨
  ∃ x, a = some x ∧ len ≤ cap ∧ cap ≤ maxLen ∧ zs.length = cap ∧ (∀ i, i < zs.length → w.cell? (x.add i) = some (.int k (zs.getD i 0))) ∧ ∀ n ∈ zs, (Lit.int k n).wf = true

theorem i64_of_wf {n : Int} (h : (Lit.int .i64 n).wf = true) : I64 n := by
  simpa [Lit.wf, I64, IntKind.min, IntKind.max, IntKind.signed, IntKind.bits] using h
theorem u8_of_wf {n : Int} (h : (Lit.int .u8 n).wf = true) : 0 ≤ n ∧ n < 256 := by
  have : 0 ≤ n ∧ n ≤ 255 := by simpa [Lit.wf, IntKind.min, IntKind.max, IntKind.signed, IntKind.bits] using h
  omega

theorem IsRow.rd_ {k : IntKind} {w : World} {a : Option Addr} {len cap : Nat} {zs : List Int} (h : IsRow k w a len cap zs) :
    Rd w w.heap.size (.slice a len cap) ((zs.take len).map fun n => .int k n) := by
  rcases h with ⟨rfl, rfl, rfl, rfl⟩ | ⟨x, rfl, hl, _, hz, hc, _⟩
  · exact ⟨none, 0, rfl, Nat.le_refl _, fun h => absurd h (by simp)⟩
  · have hn : ((zs.take len).map fun n => Value.int k n).length = len := by simp; omega
    refine ⟨some x, cap, by rw [hn], by rw [hn]; exact hl, fun h0 => ⟨x, rfl, ?_, fun j u hu => ?_⟩⟩
    · have := cell_lt (hc 0 (by omega))
      rwa [block_add] at this
    · have hj : j < len := by rw [← hn]; exact (List.getElem?_eq_some_iff.1 hu).1
      rw [hc j (by omega), ← hu]
      have hjz : j < zs.length := by omega
      simp [List.getD, hj, hjz]

/- integers -/
theorem IsRow.ints {w : World} {a : Option Addr} {len cap : Nat} {zs : List Int} (h : IsRow .i64 w a len cap zs) :
    ∃ ls : List Int, Rd w w.heap.size (.slice a len cap) (ls.map vi) ∧ ∀ x ∈ ls, I64 x := by
  refine ⟨zs.take len, h.rd_, fun x hx => ?_⟩
  have hx := List.mem_of_mem_take hx
  rcases h with ⟨_, _, _, rfl⟩ | ⟨_, _, _, _, _, _, hw⟩
  · simp at hx
  · exact i64_of_wf (hw x hx)
/- bytes -/
theorem IsRow.bytes {w : World} {a : Option Addr} {len cap : Nat} {zs : List Int} (h : IsRow .u8 w a len cap zs) :
    ∃ bs : List Nat, Rd w w.heap.size (.slice a len cap) (bs.map vb) ∧ Bytes bs := by
  have hw : ∀ x ∈ zs.take len, 0 ≤ x ∧ x < 256 := by
    intro x hx
    have hx := List.mem_of_mem_take hx
    rcases h with ⟨_, _, _, rfl⟩ | ⟨_, _, _, _, _, _, hw⟩
    · simp at hx
    · exact u8_of_wf (hw x hx)
  refine ⟨(zs.take len).map Int.toNat, ?_, fun x hx => ?_⟩
  · have := h.rd_
    have e : ((zs.take len).map fun n => Value.int .u8 n) = ((zs.take len).map Int.toNat).map vb := by
      rw [List.map_map]
      refine List.map_congr_left fun n hn => ?_
      have := (hw n hn).1
      simp [vb, Int.toNat_of_nonneg this]
    rwa [e] at this
  · obtain ⟨n, hn, rfl⟩ := List.mem_map.1 hx
    have := hw n hn
    omega

/- a slice of integers that came in, opened -/
theorem row_of {H : Type} {enc : TypeId × Value → H} {k : IntKind} {W : World} {t e : TypeId} {a : Option Addr} {len cap : Nat} {d : DataW H} {p : List MemPlace}
    (ht : Tryd.prog.underlying t = some (.slice e)) (he : Tryd.prog.underlying e = some (.int k)) (hce : Tryd.prog.cellsOf e = 1)
    (h : DataW.Trod enc Tryd.prog W 0 (fun _ => true) true t (.slice a len cap) d p) : ∃ zs, IsRow k W a len cap zs := by
  obtain ⟨fuel, hf⟩ := h
  rcases open_ints ht he hce hf with ⟨hcs, _⟩ | ⟨x, l, c, zs, hcs, _, hl, hm, hz, _, hcell, hwz⟩
  · simp [Value.cells] at hcs
    obtain ⟨rfl, rfl, rfl⟩ := hcs
    exact ⟨[], .inl ⟨rfl, rfl, rfl, rfl⟩⟩
  · simp [Value.cells] at hcs
    obtain ⟨rfl, rfl, rfl⟩ := hcs
    exact ⟨zs, .inr ⟨_, rfl, hl, hm, by simpa using hz, hcell, hwz⟩⟩
end Go.Proofs.YtoojacpkbmgaeaaDoor
