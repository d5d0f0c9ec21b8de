/- A claim in a block of its own: read and written whole. -/
import Derived.Test.YtoojacpkbmgaeaaDoorCPl2
import Derived.Deep.MidRow
namespace Go.Proofs.YtoojacpkbmgaeaaDoor
open Go.RowKit Pl

theorem info4 : (Tryd.prog.info? 24).map (·.size) = some 4 := by kernel_rfl
theorem Box.there4 {w : World} {g : Nat} {t : TypeId} {d : Clm} (h : Box w g t (cells4 d).toArray) : w.there g 0 4 := by
  intro j hj
  refine ⟨?_, ?_⟩
  · rw [Nat.zero_add, h.cell]
    simp [cells4, hj]
  · rw [Nat.zero_add]; exact h.frozen j
theorem setCells4 (w : World) (g : Nat) (c : Clm) : w.setCells g 0 (cells4 c) = put4 w g c := rfl
section
variable {ops : Array Oper} {rest : List Oper} {o : Oper} {a : Act} {w : World} {Q : Exit → Act → World → Prop}
theorem st4 (x y : Operand) (g : Nat) (c d : Clm) (t : TypeId) (hgd : o.guard = none) (ho : o.op = .store 24 x y)
    (hx : a.eval x = .pointer (some ⟨g, 0, none⟩)) (hy : a.eval y = .agg (cells4 c).toArray) (hb : Box w g t (cells4 d).toArray)
    (h : ∀ w', Box w' g t (cells4 c).toArray → Keeps (fun i => i = g) w w' → wpList Tryd.prog ops Q rest (a.put o.dst undef) w') : wpList Tryd.prog ops Q (o :: rest) a w := by
  refine wpList_store_mid hgd 24 x y ho g 0 (cells4 c).toArray hx hy hb.there4 info4 (by simp [cells4, Value.oneCell']) ?_
  exact h _ (hb.put4 c) (put4_keeps w g c)
theorem ld4 (x : Operand) (g : Nat) (c : Clm) (t : TypeId) (hgd : o.guard = none) (ho : o.op = .load 24 x)
    (hx : a.eval x = .pointer (some ⟨g, 0, none⟩)) (hb : Box w g t (cells4 c).toArray)
    (h : wpList Tryd.prog ops Q rest (a.put o.dst (.agg (cells4 c).toArray)) w) : wpList Tryd.prog ops Q (o :: rest) a w := by
  refine wpList_load_mid hgd 24 x ho g 0 hx (cells4 c) _ (fun j v hv => ?_) Tryd.underlying24 rfl info4 h
  rw [Nat.zero_add, hb.cell]
  simpa using hv
end
end Go.Proofs.YtoojacpkbmgaeaaDoor
