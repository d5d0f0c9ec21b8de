/- A claim in a block of its own: read and written whole. -/
import Derived.Test.YtggnifejlheebaaDoorCodecEnvelopeP16
import Derived.Deep.MidRow
namespace Go.Proofs.YtggnifejlheebaaDoor
open Go.RowKit Pl

theorem info4 : (Tryd.prog.info? 52).map (·.size) = some 4 := by kernel_rfl
theorem Box.there4 {w : World} {g : Nat} {t : TypeId} {d : Clm} (h : Box w g t (cells4 d).toArray) : w.there g 0 4 := by
  intro j hj
  refine ⟨?_, ?_⟩
  · rw [Nat.zero_add, h.cell]
    simp [cells4, hj]
  · rw [Nat.zero_add]; exact h.frozen j
theorem setCells4 (w : World) (g : Nat) (c : Clm) : w.setCells g 0 (cells4 c) = put4 w g c := rfl
section
variable {ops : Array Oper} {rest : List Oper} {o : Oper} {a : Act} {w : World} {Q : Exit → Act → World → Prop}
theorem st4 (x y : Operand) (g : Nat) (c d : Clm) (t : TypeId) (hgd : o.guard = none) (ho : o.op = .store 52 x y)
    (hx : a.eval x = .pointer (some ⟨g, 0, none⟩)) (hy : a.eval y = .agg (cells4 c).toArray) (hb : Box w g t (cells4 d).toArray)
    (h : ∀ w', Box w' g t (cells4 c).toArray → Keeps (fun i => i = g) w w' → wpList Tryd.prog ops Q rest (a.put o.dst undef) w') : wpList Tryd.prog ops Q (o :: rest) a w := by
  refine wpList_store_mid hgd 52 x y ho g 0 (cells4 c).toArray hx hy hb.there4 info4 (by simp [cells4, Value.oneCell']) ?_
  exact h _ (hb.put4 c) (put4_keeps w g c)
theorem st4v (x y : Operand) (g : Nat) (f0 f1 f2 f3 : Int) (d : Clm) (t : TypeId) (hgd : o.guard = none) (ho : o.op = .store 52 x y)
    (hx : a.eval x = .pointer (some ⟨g, 0, none⟩)) (hy : a.eval y = .agg #[.int .i64 f0, .int .i64 f1, .int .i64 f2, .int .i64 f3]) (hb : Box w g t (cells4 d).toArray)
    (h : ∀ w' c, Box w' g t (cells4 c).toArray → Keeps (fun i => i = g) w w' → wpList Tryd.prog ops Q rest (a.put o.dst undef) w') : wpList Tryd.prog ops Q (o :: rest) a w :=
  st4 x y g (f0, f1, f2, f3) d t hgd ho hx hy hb fun w' hb' hk => h w' _ hb' hk
/- one of its numbers -/
theorem set4_some (d : Clm) (k : Nat) (hk : k < 4) (n : Int) : ∃ d' : Clm, (cells4 d).toArray.setIfInBounds k (.int .i64 n) = (cells4 d').toArray := by
  have : k = 0 ∨ k = 1 ∨ k = 2 ∨ k = 3 := by omega
  rcases this with rfl | rfl | rfl | rfl
  · exact ⟨(n, d.2.1, d.2.2.1, d.2.2.2), rfl⟩
  · exact ⟨(d.1, n, d.2.2.1, d.2.2.2), rfl⟩
  · exact ⟨(d.1, d.2.1, n, d.2.2.2), rfl⟩
  · exact ⟨(d.1, d.2.1, d.2.2.1, n), rfl⟩
theorem get4_some (d : Clm) (k : Nat) (hk : k < 4) : ∃ n : Int, (cells4 d).toArray[k]? = some (.int .i64 n) := by
  have : k = 0 ∨ k = 1 ∨ k = 2 ∨ k = 3 := by omega
  rcases this with rfl | rfl | rfl | rfl <;> exact ⟨_, rfl⟩
theorem st1 (x y : Operand) (g k : Nat) (hk : k < 4) (n : Int) (d : Clm) (t : TypeId) (hgd : o.guard = none) (ho : o.op = .store 3 x y)
    (hx : a.eval x = .pointer (some ⟨g, k, none⟩)) (hy : a.eval y = .int .i64 n) (hb : Box w g t (cells4 d).toArray)
    (h : ∀ w' c, Box w' g t (cells4 c).toArray → Keeps (fun i => i = g) w w' → wpList Tryd.prog ops Q rest (a.put o.dst undef) w') : wpList Tryd.prog ops Q (o :: rest) a w := by
  obtain ⟨u, hu⟩ := get4_some d k hk
  have hc := (hb.cell k).trans hu
  have hf := hb.frozen k
  obtain ⟨d', hd'⟩ := set4_some d k hk n
  have hb' := hb.set_ k (.int .i64 n)
  rw [hd'] at hb'
  have hk' : Keeps (fun i => i = g) w (w.setCell ⟨g, k, none⟩ (.int .i64 n)) := (Keeps.refl (fun i => i = g) w).setCell (p := ⟨g, k, none⟩) (.inl rfl) _
  refine wpList_plain hgd fun K hK => ?_
  unfold Oper.wp execOp
  simp only [ho, hx, hy]
  go_simp
  exact hK _ _ (h _ d' hb' hk')
theorem ld4 (x : Operand) (g : Nat) (c : Clm) (t : TypeId) (hgd : o.guard = none) (ho : o.op = .load 52 x)
    (hx : a.eval x = .pointer (some ⟨g, 0, none⟩)) (hb : Box w g t (cells4 c).toArray)
    (h : wpList Tryd.prog ops Q rest (a.put o.dst (.agg (cells4 c).toArray)) w) : wpList Tryd.prog ops Q (o :: rest) a w := by
  refine wpList_load_mid hgd 52 x ho g 0 hx (cells4 c) _ (fun j v hv => ?_) Tryd.underlying52 rfl info4 h
  rw [Nat.zero_add, hb.cell]
  simpa using hv
end
end Go.Proofs.YtggnifejlheebaaDoor
