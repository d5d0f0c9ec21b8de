/- A row of claims of the call's own, and append on it. -/
import Derived.Test.YtoojacpkbmgaeaaDoorCPl2
namespace Go.Proofs.YtoojacpkbmgaeaaDoor
open Go.RowKit Pl

theorem infoC : (Tryd.prog.info? 24).map (fun i => (i.zero, i.size, i.bytes)) = some (some (.agg #[.int .i64 0, .int .i64 0, .int .i64 0, .int .i64 0]), 4, 32) := by kernel_rfl

def MineC (w : World) (base : Nat) (v : Value) (cs : List Clm) : Prop := w.ownsRow base 24 4 v cs.length (flat cs)
section
variable {w w' : World} {base : Nat} {v : Value} {cs : List Clm} {S : Nat → Prop}
theorem MineC.nil (w : World) (base : Nat) : MineC w base (.slice none 0 0) [] := World.ownsRow_nil _ _ _ _
theorem MineC.lt (h : MineC w base v cs) : ∀ k, v.ownBlock = some k → base ≤ k ∧ k < w.heap.size := World.ownsRow.lt h
theorem MineC.keep (h : MineC w base v cs) (hk : Keeps S w w') (hv : ∀ k, v.ownBlock = some k → ¬ S k) : MineC w' base v cs := by
  obtain ⟨h1, h2⟩ := h
  refine ⟨h1, ?_⟩
  rcases h2 with h2 | ⟨g, cap, cur, rfl, hg, hh, r⟩
  · exact .inl h2
  · have hlt : g < w.heap.size := by
      rcases Nat.lt_or_ge g w.heap.size with hlt | hge
      · exact hlt
      · rw [Array.getElem?_eq_none hge] at hh; cases hh
    exact .inr ⟨g, cap, cur, rfl, hg, (hk.block g hlt (hv g rfl)).trans hh, r⟩
theorem MineC.grew (h : MineC w base v cs) (hk : Grew w w') : MineC w' base v cs := h.keep hk fun _ _ e => e
theorem MineC.alloc (h : MineC w base v cs) (o : Obj) : MineC (w.alloc o) base v cs := World.ownsRow.alloc h o
theorem MineC.base_le {base' : Nat} (h : MineC w base v cs) (hb : base' ≤ base) : MineC w base' v cs := by
  obtain ⟨h1, h2⟩ := h
  refine ⟨h1, ?_⟩
  rcases h2 with h2 | ⟨g, cap, cur, hv, hg, r⟩
  · exact .inl h2
  · exact .inr ⟨g, cap, cur, hv, Nat.le_trans hb hg, r⟩
theorem MineC.form (h : MineC w base v cs) : (v = .slice none 0 0 ∧ cs = []) ∨
    ∃ g cap cur, v = .slice (some ⟨g, 0, none⟩) cs.length cap ∧ base ≤ g ∧ Box w g 24 cur ∧ cs.length ≤ cap ∧ cap ≤ maxLen ∧ cur.size = cap * 4 ∧ cur.toList.take (cs.length * 4) = flat cs := by
  obtain ⟨h1, h2⟩ := h
  rcases h2 with ⟨rfl, h2⟩ | ⟨g, cap, cur, rfl, hg, hh, h3, h4, h5, h6⟩
  · exact .inl ⟨rfl, List.eq_nil_of_length_eq_zero h2⟩
  · exact .inr ⟨g, cap, cur, rfl, hg, hh, h3, h4, h5, h6⟩
theorem MineC.slice (h : MineC w base v cs) : ∃ A n c, v = .slice A n c ∧ n = cs.length ∧ n ≤ c := by
  rcases h.form with ⟨rfl, rfl⟩ | ⟨g, cap, cur, rfl, _, _, h1, _⟩
  · exact ⟨_, _, _, rfl, rfl, Nat.le_refl _⟩
  · exact ⟨_, _, _, rfl, rfl, h1⟩
theorem MineC.rd (h : MineC w base v cs) : RdC w w.heap.size v cs := by
  rcases h.form with ⟨rfl, rfl⟩ | ⟨g, cap, cur, rfl, hb, hbox, h1, h2, h3, h4⟩
  · exact RdC.nil _ _
  · refine ⟨_, cap, rfl, h1, fun _ => ⟨g, 0, rfl, hbox.lt, fun j u hu => ?_⟩⟩
    have hj : j < cs.length * 4 := by rw [← flat_length]; exact (List.getElem?_eq_some_iff.1 hu).1
    rw [Nat.zero_add, hbox.cell, ← Array.getElem?_toList, ← hu, ← h4, List.getElem?_take, if_pos hj]
theorem MineC.ne_box {g k : Nat} {t : TypeId} {xs : Array Value} (h : MineC w base v cs) (hv : v.ownBlock = some k) (hb : Box w g t xs) (hne : 24 ≠ t) : k ≠ g := by
  rcases h.form with ⟨rfl, _⟩ | ⟨g', cap, cur, rfl, _, hbox, _⟩
  · cases hv
  · have : g' = k := by simpa [Value.ownBlock] using hv
    subst this
    exact hbox.ne_ hb hne
end

/- a row of claims and a box beside it -/
def Off (v : Value) (g : Nat) : Prop := ∀ k, v.ownBlock = some k → k ≠ g
theorem Off.nil (g : Nat) : Off (.slice none 0 0) g := fun k h => by cases h
theorem Box.asideC {w w' : World} {g : Nat} {t : TypeId} {u : Value} {xs : Array Value} (h : Box w g t xs) (ho : Off u g) (hk : Keeps (fun i => u.ownBlock = some i) w w') : Box w' g t xs :=
  h.keep hk fun e => ho _ e rfl
theorem oneC {cs : List Clm} : ∀ u ∈ flat cs, u.oneCell' = true := by
  intro u hu
  unfold flat at hu
  obtain ⟨c, _, hc⟩ := List.mem_flatMap.1 hu
  simp only [cells4, List.mem_cons, List.not_mem_nil, or_false] at hc
  rcases hc with rfl | rfl | rfl | rfl <;> rfl
theorem add_none (b o j : Nat) : (⟨b, o, none⟩ : Addr).add j = ⟨b, o + j, none⟩ := by unfold Addr.add; split <;> simp_all

section
variable {w : World} {base : Nat} {v : Value} {cs : List Clm}
set_option maxRecDepth 100000 in
theorem run_appC (ty : TypeId) (hown : MineC w base v cs) {B : Nat} {sv : Value} {ds : List Clm} (hr : RdC w B sv ds)
    (hn : cs.length + ds.length ≤ 1099511627776) (hbase : base ≤ w.heap.size) :
    ∃ v' w', (Builtin.append_ #[25, 25] ty #[v, sv]).run Tryd.prog w = .ok v' w' ∧ MineC w' base v' (cs ++ ds) ∧ Keeps (fun i => v.ownBlock = some i) w w' ∧
      (v'.ownBlock = v.ownBlock ∨ v'.ownBlock = some w.heap.size) := by
  obtain ⟨i, hi, hz, hs, hby⟩ := info_parts infoC
  obtain ⟨A, c, rfl, hc, hx⟩ := hr
  rcases A with _ | ad
  · have hy : ds = [] := by
      rcases ds with _ | ⟨y, ys⟩
      · rfl
      · obtain ⟨b, o, h, _⟩ := hx (by simp)
        cases h
    subst hy
    refine ⟨v, w, ?_, by simpa using hown, Keeps.refl _ _, .inl rfl⟩
    rcases hown.2 with ⟨rfl, h0⟩ | ⟨g, cap, cur, rfl, _, _, hnc, _⟩
    · have : cs = [] := List.eq_nil_of_length_eq_zero h0
      subst this
      simp [Builtin.append_, run_underlying Tryd.underlying25, sizeOf, typeInfo, hi, Builtin.lenOf, Builtin.firstCells]
    · simp [Builtin.append_, run_underlying Tryd.underlying25, sizeOf, typeInfo, hi, Builtin.lenOf, Builtin.firstCells, hnc, storeCells]
  · have hcells : ∀ j u, (flat ds)[j]? = some u → w.cell? (ad.add j) = some u := by
      intro j u hu
      rcases ds with _ | ⟨y, ys⟩
      · simp [flat] at hu
      · obtain ⟨b, o, h, _, hc⟩ := hx (by simp)
        injection h with h
        subst h
        rw [add_none]
        exact hc j u hu
    obtain ⟨v', w', hrun, h2, h3, _, h5⟩ := run_append_own_at (P := Tryd.prog) w base 25 ty 24 i _ 4 32 Tryd.underlying25 hi hz hs hby rfl (by decide) v cs.length (flat cs) hown ad ds.length c (flat ds) (flat_length ds) hcells oneC (by unfold maxLen; omega) (by omega) hbase
    refine ⟨v', w', hrun, ?_, (Keeps.refl _ w).grown h3 (fun k e _ => e), h5⟩
    unfold MineC
    rw [List.length_append, flat_append]
    exact h2

theorem app_anyC {ops : Array Oper} {rest : List Oper} {o : Oper} {a : Act} {Q : Exit → Act → World → Prop} (hgd : o.guard = none) (s x : Operand)
    (ho : o.op = .call { callee := .builtin .append, args := #[s, x], argTypes := #[25, 25] })
    (hs : a.eval s = v) (hown : MineC w base v cs) {B : Nat} {sv : Value} {ds : List Clm} (hx : a.eval x = sv) (hr : RdC w B sv ds)
    (hn : cs.length + ds.length ≤ 1099511627776) (hbase : base ≤ w.heap.size)
    (h : ∀ A m cap w', (cs ++ ds).length = m → MineC w' base (.slice A m cap) (cs ++ ds) → Keeps (fun i => v.ownBlock = some i) w w' →
      ((Value.slice A m cap).ownBlock = v.ownBlock ∨ (Value.slice A m cap).ownBlock = some w.heap.size) → wpList Tryd.prog ops Q rest (a.put o.dst (.slice A m cap)) w') : wpList Tryd.prog ops Q (o :: rest) a w := by
  refine wpList_plain hgd fun K hK => ?_
  obtain ⟨v', w', hrun, h2, h3, h4⟩ := run_appC o.type hown hr hn hbase
  unfold Oper.wp execOp
  simp only [ho, resolve, invoke, builtin, Sem.run_bind, Sem.run_pure, Result.andThen_ok, List.map_toArray, List.map_cons, List.map_nil, hs, hx, hrun]
  obtain ⟨A, m, cap, rfl, hm, _⟩ := h2.slice
  exact hK _ _ (h A m cap w' hm.symm h2 h3 h4)

/- one claim: it lies in a block of its own -/
theorem app_oneC {ops : Array Oper} {rest : List Oper} {o : Oper} {a : Act} {Q : Exit → Act → World → Prop} (hgd : o.guard = none) (s x : Operand)
    (ho : o.op = .call { callee := .builtin .append, args := #[s, x], argTypes := #[25, 25] })
    (hs : a.eval s = v) (hown : MineC w base v cs) (g c : Nat) (d : Clm) (t : TypeId) (hx : a.eval x = .slice (some ⟨g, 0, none⟩) 1 c) (hc1 : 1 ≤ c) (hb : Box w g t (cells4 d).toArray)
    (hn : cs.length < 1099511627776) (hbase : base ≤ w.heap.size)
    (h : ∀ r cap w', MineC w' base (.slice (some ⟨r, 0, none⟩) (cs.length + 1) cap) (cs ++ [d]) → Keeps (fun i => v.ownBlock = some i) w w' →
      (some r = v.ownBlock ∨ r = w.heap.size) → base ≤ r → r < w'.heap.size → wpList Tryd.prog ops Q rest (a.put o.dst (.slice (some ⟨r, 0, none⟩) (cs.length + 1) cap)) w') : wpList Tryd.prog ops Q (o :: rest) a w := by
  have hr : RdC w w.heap.size (.slice (some ⟨g, 0, none⟩) 1 c) [d] := by
    refine ⟨_, c, rfl, hc1, fun _ => ⟨_, _, rfl, hb.lt, fun j u hu => ?_⟩⟩
    rw [Nat.zero_add, hb.cell, ← hu, flat_one]
    simp
  refine app_anyC hgd s x ho hs hown hx hr (by simp; omega) hbase ?_
  intro A m cap w' hm h2 h3 h4
  rcases h2.form with ⟨_, hh⟩ | ⟨g', cap', cur, hv, hb, hbox, _⟩
  · simp at hh
  · injection hv with hv1 hv2 hv3
    subst hv1 hv2 hv3
    simp only [List.length_append, List.length_singleton] at h2 h4 ⊢
    refine h g' cap w' h2 h3 ?_ hb hbox.lt
    rcases h4 with h4 | h4
    · exact .inl h4
    · right; simpa [Value.ownBlock] using h4
end
end Go.Proofs.YtoojacpkbmgaeaaDoor
