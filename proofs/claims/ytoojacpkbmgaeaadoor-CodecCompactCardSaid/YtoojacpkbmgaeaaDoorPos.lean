/- bits.positions: its iterator hands out the positions count-1 .. 0. -/
import Derived.RangeFuncNested
import Derived.RangeFuncBound
import Derived.RangeFuncCalls
import Derived.RangeFuncLeaves
import Derived.Shelf.Abstract
import Derived.Shelf.RegionOpen
import Derived.WalkKit
import Derived.OwnWalkIn
import Derived.TacticsInMore
import Derived.LoopNIn
import Derived.LoopIn
import Derived.Test.YtoojacpkbmgaeaaDoorProg
import Derived.Test.YtoojacpkbmgaeaaDoorBit
namespace Go.Proofs.YtoojacpkbmgaeaaDoor
open Go.RowKit Go.Shelf Pl
attribute [local go_sem] Oper.semAt_some

def down (k : Nat) : List (Fin 64) := (List.range k).map fun j => Fin.ofNat 64 (k - 1 - j)
theorem down_take (k j : Nat) (hj : j < k) (hk : k ≤ 64) : (down k).take (j + 1) = (down k).take j ++ [⟨k - 1 - j, by omega⟩] := by
  rw [List.take_succ_eq_append_getElem (by simp [down]; exact hj)]
  congr 1
  simp only [down, List.getElem_map, List.getElem_range]
  congr 1
  apply Fin.ext
  simp [Fin.ofNat]
  omega
theorem down_length (k : Nat) : (down k).length = k := by simp [down]

set_option maxHeartbeats 800000 in
theorem pos1_in (F : Fence) (n : Nat) (hf : F.fn 131) (hro : F.round = none) (hn : 1 ≤ n) (l Bn k : Nat) (hk : k ≤ 64) (J Jx : List (Fin 64) → World → Prop)
    (hY : ∀ pre (x : Fin 64) W, J pre W → pre.length < k → YieldAt F (n - 1) Tryd.prog l #[.int .i64 (x.val : Nat)] W fun e W' =>
      (e = .returned (.bool true) ∧ J (pre ++ [x]) W' ∧ True) ∨ (e = .returned (.bool false) ∧ Jx (pre ++ [x]) W'))
    (W : World) (hB : W.cell? ⟨Bn, 0, none⟩ = some (.int .i64 (k : Nat))) (h0 : J [] W) :
    CallsIn F n Tryd.prog 131 #[.func (.yield l) #[] #[], .pointer (some ⟨Bn, 0, none⟩)] W fun e W' => (∃ v, e = .returned v) ∧
      ((∃ xs, xs = down k ∧ J xs W') ∨ (∃ pre : List (Fin 64), True ∧ Jx pre W')) := by
  refine callsIn_of_wp Tryd.func131 rfl hf ?_ hro
  simp only [Tryd.ntmps131, List.size_toArray, List.length_cons, List.length_nil, Nat.reduceAdd, Nat.reduceSub, Array.replicate_succ, Array.replicate_zero, List.push_toArray, List.append_toArray, List.nil_append, List.cons_append]
  gi_wp2
  gi_loopw [3] (fun i wr => ∃ j : Nat, j ≤ k ∧ i = .int .i64 ((k : Int) - 1 - j) ∧ J ((down k).take j) wr) (fun i _ => (intOf i + 1).toNat)
  case atStart => exact ⟨0, by omega, by simp, by simpa using h0⟩
  case round =>
    obtain ⟨j, hj, rfl, hJ⟩ := hrel
    by_cases hlt : j < k
    · obtain ⟨fn, tmps, assign, body, hy, hR⟩ := hY _ ⟨k - 1 - j, by omega⟩ wr hJ (by rw [List.length_take, down_length]; omega)
      have e1 : (((k - 1 - j : Nat) : Nat) : Int) = (k : Int) - 1 - j := by omega
      simp only [e1] at hy
      gi_wp2
      refine hR.mono ?_
      rintro e W3 (⟨rfl, hJ3, -⟩ | ⟨rfl, hJx3⟩)
      · rw [← down_take k j hlt hk] at hJ3
        gi_wp2
        go_roundw
        case rel => exact ⟨j + 1, by omega, by go_num, hJ3⟩
        case measure => simp [intOf]; omega
      · gi_wp2
        refine bodyPost_ret (results_none rfl _ _ _) rfl ?_
        exact ⟨⟨_, rfl⟩, .inr ⟨_, trivial, hJx3⟩⟩
    · gi_wp2
      go_end0
      refine ⟨⟨_, rfl⟩, .inl ⟨_, rfl, ?_⟩⟩
      rw [List.take_of_length_le (by rw [down_length]; omega)] at hJ
      exact hJ

theorem pos1_stops (F : Fence) (n : Nat) (hf : F.fn 131) (hro : F.round = none) (hn : 1 ≤ n) (Bn k : Nat) (hk : k ≤ 64) (w : World) (hlt : Bn < w.heap.size) (hB : w.cell? ⟨Bn, 0, none⟩ = some (.int .i64 (k : Nat))) :
    SeqStopsK (α := Fin 64) F n Tryd.prog 131 #[.pointer (some ⟨Bn, 0, none⟩)] (fun x => #[.int .i64 (x.val : Nat)]) (fun _ _ => True) (fun xs => xs = down k) (fun _ => True) k w :=
  fun l J Jx W hW _ _ hY h0 => pos1_in F n hf hro hn l Bn k hk J Jx hY W ((hW.cell (p := ⟨Bn, 0, none⟩) hlt).trans hB) h0

theorem positions_any (k : Int) (w : World) :
    Calls Tryd.prog 125 #[.int .i64 k] w fun e w' => e = .returned (.func (.func 131) #[] #[.pointer (some ⟨w.heap.size, 0, none⟩)]) ∧ w' = w.alloc (.cells #[.int .i64 k] 3) := by
  go_enter Tryd.func125, Tryd.ntmps125
  go_wp2
  go_ret
  exact ⟨rfl, rfl⟩
theorem clamp_any (k : Nat) (hk : k ≤ 64) (w : World) :
    Calls Tryd.prog 126 #[.int .i64 (k : Nat)] w fun e w' => e = .returned (.int .i64 (k : Nat)) ∧ w = w' := by
  have h1 : ¬ ((k : Int) < 0) := by omega
  have h2 : ¬ ((64 : Int) < (k : Int)) := by omega
  go_enter Tryd.func126, Tryd.ntmps126
  go_wp2
  go_ret
  exact ⟨rfl, rfl⟩
end Go.Proofs.YtoojacpkbmgaeaaDoor
