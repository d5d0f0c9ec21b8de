/- ref11.Some: one of the two kinds of claims. A block (five cells) in a box of its own: read and written whole; a result that lies in a cell. Chapter 18: of, plain. -/
import Derived.Test.YtgkmfblmkfclbaaGreatDoorBlockSoundP45
import Derived.Test.YtgkmfblmkfclbaaGreatDoorBlockSoundP12
import Derived.Test.YtgkmfblmkfclbaaGreatDoorBlockSoundP11
namespace Go.Proofs.YtgkmfblmkfclbaaGreatDoor
open Go.RowKit Pl

set_option maxHeartbeats 3200000 in
set_option maxRecDepth 100000 in
theorem some_any (nm : ByteArray) (A : Option Addr) (n c : Nat) (x : Fin 10 → Int) (v u : Value) (l m : List Int) (b : Bool) (w : World) (hx : TinyD x) (hv : Rd w w.heap.size v (l.map vi)) (hi : ∀ y ∈ l, I64 y) (hl : l.length ≤ 1000000000000000) (hu : Rd w w.heap.size u (m.map vi)) (hj : ∀ y ∈ m, I64 y) (hm : m.length ≤ 1000000000000000) :
    Calls Tryz.prog 5 #[vdecl nm (.slice A n c) x, v, u, .bool b] w (SomePost x w) := by
  have HW := Lib.hid (fun w' (g : Grew w w') => rwild_any nm A n c x u m w' hx ((hu.grew (Nat.le_refl _) g).more g.size) hj hm)
  have HI := Lib.hid (fun w' (g : Grew w w') => inside_any nm A n c x v l w' hx ((hv.grew (Nat.le_refl _) g).more g.size) hi hl)
  have HA := Lib.hid (fun w' (g : Grew w w') (U : Value) (xs : List Int) (h1 : Rd w' w'.heap.size U (xs.map vi)) (h2 : xs.length = spanD x) (h3 : Slow xs) => raround_any nm A n c x U u xs m w' hx h1 h2 h3 ((hu.grew (Nat.le_refl _) g).more g.size) hj hm)
  have hbd : Box (w.alloc (.cells (cells12 nm (.slice A n c) x).toArray 27)) w.heap.size 27 (cells12 nm (.slice A n c) x).toArray := Box.new _ _ _
  have hG0 := (Grew.refl w).alloc (.cells (cells12 nm (.slice A n c) x).toArray 27)
  obtain ⟨B, p, q, rfl, -, -⟩ := hv.form
  obtain ⟨B2, p2, q2, rfl, -, -⟩ := hu.form
  clear hv hu hi hj
  rw [vdecl_cells]
  rw [vdecl_cells] at HW HI HA
  cases b
  · go_enter Tryz.func5, Tryz.ntmps5
    go_upto_region 1 with fail
    generalize w.alloc (.cells (cells12 nm (.slice A n c) x).toArray 27) = w1 at *
    have hz : Grew w1 w1.drew := Keeps.drew (Grew.refl w1)
    have HBz := Lib.hid (fun w' (g : Grew w1 w') => hbd.grew g)
    have HG := Lib.hid hG0
    clear hbd hG0
    go_upto_region 3 with fail
    have HS := Lib.hid (show ∀ w', Grew w1 w' → w'.cell? ⟨w.heap.size, 0, none⟩ = some (.string nm) ∧ w'.cell? ⟨w.heap.size, 1, none⟩ = some (.slice A n c) ∧ w'.cell? ⟨w.heap.size, 2, none⟩ = some (.int .i64 (x 0)) ∧ w'.cell? ⟨w.heap.size, 3, none⟩ = some (.int .i64 (x 1)) ∧ w'.cell? ⟨w.heap.size, 4, none⟩ = some (.int .i64 (x 2)) ∧ w'.cell? ⟨w.heap.size, 5, none⟩ = some (.int .i64 (x 3)) ∧ w'.cell? ⟨w.heap.size, 6, none⟩ = some (.int .i64 (x 4)) ∧ w'.cell? ⟨w.heap.size, 7, none⟩ = some (.int .i64 (x 5)) ∧ w'.cell? ⟨w.heap.size, 8, none⟩ = some (.int .i64 (x 6)) ∧ w'.cell? ⟨w.heap.size, 9, none⟩ = some (.int .i64 (x 7)) ∧ w'.cell? ⟨w.heap.size, 10, none⟩ = some (.int .i64 (x 8)) ∧ w'.cell? ⟨w.heap.size, 11, none⟩ = some (.int .i64 (x 9)) from fun w' g => ⟨(HBz.out w' g).cell 0, (HBz.out w' g).cell 1, (HBz.out w' g).cell 2, (HBz.out w' g).cell 3, (HBz.out w' g).cell 4, (HBz.out w' g).cell 5, (HBz.out w' g).cell 6, (HBz.out w' g).cell 7, (HBz.out w' g).cell 8, (HBz.out w' g).cell 9, (HBz.out w' g).cell 10, (HBz.out w' g).cell 11⟩)
    have gz : Grew w1 w1.drew := Keeps.drew (Grew.refl w1)
    have cz := HS.out _ gz
    unfold cells12 at HI HA
    go_region_held3 (fun w' => w'.cell? ⟨w.heap.size, 0, none⟩ = some (.string nm) ∧ w'.cell? ⟨w.heap.size, 1, none⟩ = some (.slice A n c) ∧ w'.cell? ⟨w.heap.size, 2, none⟩ = some (.int .i64 (x 0)) ∧ w'.cell? ⟨w.heap.size, 3, none⟩ = some (.int .i64 (x 1)) ∧ w'.cell? ⟨w.heap.size, 4, none⟩ = some (.int .i64 (x 2)) ∧ w'.cell? ⟨w.heap.size, 5, none⟩ = some (.int .i64 (x 3)) ∧ w'.cell? ⟨w.heap.size, 6, none⟩ = some (.int .i64 (x 4)) ∧ w'.cell? ⟨w.heap.size, 7, none⟩ = some (.int .i64 (x 5)) ∧ w'.cell? ⟨w.heap.size, 8, none⟩ = some (.int .i64 (x 6)) ∧ w'.cell? ⟨w.heap.size, 9, none⟩ = some (.int .i64 (x 7)) ∧ w'.cell? ⟨w.heap.size, 10, none⟩ = some (.int .i64 (x 8)) ∧ w'.cell? ⟨w.heap.size, 11, none⟩ = some (.int .i64 (x 9))) (first | assumption | exact HS.out _ (by assumption) | exact HS.out _ (Keeps.drew (Grew.refl _)))
      (first | (go_at_call 19; (with_reducible refine (HI.out w1.drew (HG.out.trans gz)).mono ?_); rintro e wa ⟨C, q5, ys, rfl, hM5, hl5, hS5, ga⟩; have gA := gz.trans ga; have cA := HS.out wa gA) | (go_at_call 18; (with_reducible refine (HA.out wa (HG.out.trans gA) _ ys hM5.rd hl5 hS5).mono ?_); rintro e wb ⟨v2, cs, rfl, hM, hF, hl6, gb⟩; have gB := gA.trans gb; have cB := HS.out wb gB))
    have HM := Lib.hid (hM.base_le (HG.out.trans gA).size)
    have HF := Lib.hid hF
    have HGr := Lib.hid (HG.out.trans gB)
    clear hM hF HS cz cA cB hM5 hl5 hS5 ga gb gA gB gz
    go_wp2_with fail
    go_ret
    exact ⟨_, cs, rfl, HM.out, HF.out, hl6, HGr.out⟩
  · go_enter Tryz.func5, Tryz.ntmps5
    go_upto_region 1 with fail
    generalize w.alloc (.cells (cells12 nm (.slice A n c) x).toArray 27) = w1 at *
    go_wp2_with (refine ldN 27 Tryz.underlying27 rfl (.tmp 4) w.heap.size (cells12 nm (.slice A n c) x) 27 info12 rfl rfl rfl hbd ?_)
    refine (HW.out w1 hG0).mono ?_
    rintro e w2 ⟨v2, cs, rfl, hM, hF, hl5, k2⟩
    have HM := Lib.hid (hM.base_le hG0.size)
    have HF := Lib.hid hF
    have HG := Lib.hid (hG0.trans k2)
    clear hM hF k2 hG0 hbd
    go_wp2_with fail
    go_ret
    exact ⟨_, cs, rfl, HM.out, HF.out, hl5, HG.out⟩
end Go.Proofs.YtgkmfblmkfclbaaGreatDoor
namespace Go.Proofs.YtgkmfblmkfclbaaGreatDoor
open Go.RowKit Pl

def cells5 (x : Clm) (v : Value) : List Value := [.int .i64 x.1, .int .i64 x.2.1, .int .i64 x.2.2.1, .int .i64 x.2.2.2, v]
theorem vbl_cells (x : Clm) (v : Value) : vbl x v = .agg (cells5 x v).toArray := rfl
theorem infoB : (Tryz.prog.info? 39).map (·.size) = some 5 := by kernel_rfl
theorem Box.there5 {w : World} {g : Nat} {t : TypeId} {d : Clm} {v : Value} (h : Box w g t (cells5 d v).toArray) : w.there g 0 5 := by
  intro j hj
  refine ⟨?_, ?_⟩
  · rw [Nat.zero_add, h.cell]
    simp [cells5, hj]
  · rw [Nat.zero_add]; exact h.frozen j
theorem Box.range5 {w : World} {g : Nat} {t : TypeId} {d : Clm} {v : Value} (h : Box w g t (cells5 d v).toArray) : w.rangeAt g 0 (cells5 d v) := fun j u hu => by
  rw [Nat.zero_add, h.cell]
  simpa using hu
theorem put5_keeps (w : World) (g : Nat) (c : Clm) (v : Value) : Keeps (fun i => i = g) w (w.setCells g 0 (cells5 c v)) := by
  show Keeps _ w (((((w.setCell ⟨g, 0, none⟩ _).setCell ⟨g, 1, none⟩ _).setCell ⟨g, 2, none⟩ _).setCell ⟨g, 3, none⟩ _).setCell ⟨g, 4, none⟩ _)
  exact (((((Keeps.refl (fun i => i = g) w).setCell (p := ⟨g, 0, none⟩) (.inl rfl) _).setCell (p := ⟨g, 1, none⟩) (.inl rfl) _).setCell (p := ⟨g, 2, none⟩) (.inl rfl) _).setCell (p := ⟨g, 3, none⟩) (.inl rfl) _).setCell (p := ⟨g, 4, none⟩) (.inl rfl) _
theorem Box.put5 {w : World} {g : Nat} {t : TypeId} {a : Clm} {u : Value} (h : Box w g t (cells5 a u).toArray) (c : Clm) (v : Value) : Box (w.setCells g 0 (cells5 c v)) g t (cells5 c v).toArray := by
  have h1 := ((((h.set_ 0 (.int .i64 c.1)).set_ 1 (.int .i64 c.2.1)).set_ 2 (.int .i64 c.2.2.1)).set_ 3 (.int .i64 c.2.2.2)).set_ 4 v
  show Box (((((w.setCell ⟨g, 0, none⟩ _).setCell ⟨g, 1, none⟩ _).setCell ⟨g, 2, none⟩ _).setCell ⟨g, 3, none⟩ _).setCell ⟨g, 4, none⟩ _) g t _
  simpa [cells5] using h1
section
variable {ops : Array Oper} {rest : List Oper} {o : Oper} {a : Act} {w : World} {Q : Exit → Act → World → Prop}
theorem st5 (T : TypeId) (hT : (Tryz.prog.info? T).map (·.size) = some 5) (x y : Operand) (g : Nat) (c d : Clm) (v u : Value) (t : TypeId) (hv : v.oneCell' = true) (hgd : o.guard = none) (ho : o.op = .store T x y)
    (hx : a.eval x = .pointer (some ⟨g, 0, none⟩)) (hy : a.eval y = .agg (cells5 c v).toArray) (hb : Box w g t (cells5 d u).toArray)
    (h : ∀ w', Box w' g t (cells5 c v).toArray → Keeps (fun i => i = g) w w' → wpList Tryz.prog ops Q rest (a.put o.dst undef) w') : wpList Tryz.prog ops Q (o :: rest) a w := by
  refine wpList_store_mid hgd T x y ho g 0 (cells5 c v).toArray hx hy hb.there5 hT ?_ ?_
  · simp [cells5, hv]; simp [Value.oneCell']
  · exact h _ (hb.put5 c v) (put5_keeps w g c v)
theorem ld5 (T : TypeId) (hT : (Tryz.prog.info? T).map (·.size) = some 5) {d : TypeDesc} (hu : Tryz.prog.underlying T = some d) (hd : d.isRow = true) (x : Operand) (g : Nat) (c : Clm) (v : Value) (t : TypeId) (hgd : o.guard = none) (ho : o.op = .load T x)
    (hx : a.eval x = .pointer (some ⟨g, 0, none⟩)) (hb : Box w g t (cells5 c v).toArray)
    (h : wpList Tryz.prog ops Q rest (a.put o.dst (.agg (cells5 c v).toArray)) w) : wpList Tryz.prog ops Q (o :: rest) a w :=
  wpList_load_mid hgd T x ho g 0 hx (cells5 c v) _ hb.range5 hu hd hT h
end
theorem results_cell5 {fn : Func} {p : Tmp} {ty : TypeId} (h : fn.results = #[.cell p ty]) {tmps : Array Value} {w : World} {g : Nat} {c : Clm} {v : Value} {t : TypeId} (hp : tmps.getD p undef = .pointer (some ⟨g, 0, none⟩)) (hT : (Tryz.prog.info? ty).map (·.size) = some 5) {d : TypeDesc} (hu : Tryz.prog.underlying ty = some d) (hd : d.isRow = true) (hb : Box w g t (cells5 c v).toArray) :
    (results fn tmps).run Tryz.prog w = .ok (vbl c v) w := by
  have hl := run_loadVar_mid (P := Tryz.prog) w g 0 ty (cells5 c v) d hb.range5 hu hd hT
  simp only [results, h]
  rw [Array.getD_eq_getD_getElem?] at hp
  first | (simp [hp, hl, asAddr, vbl_cells]; done) | simp [Sem.run_bind, hp, Result.andThen, hl, asAddr, vbl_cells]
end Go.Proofs.YtgkmfblmkfclbaaGreatDoor
namespace Go.Proofs.YtgkmfblmkfclbaaGreatDoor
open Go.RowKit Pl

theorem Box.five {w : World} {g : Nat} {t : TypeId} {c : Clm} {v : Value} (h : Box w g t (cells5 c v).toArray) :
    w.cell? ⟨g, 0, none⟩ = some (.int .i64 c.1) ∧ w.cell? ⟨g, 1, none⟩ = some (.int .i64 c.2.1) ∧ w.cell? ⟨g, 2, none⟩ = some (.int .i64 c.2.2.1) ∧ w.cell? ⟨g, 3, none⟩ = some (.int .i64 c.2.2.2) ∧ w.cell? ⟨g, 4, none⟩ = some v :=
  ⟨h.cell 0, h.cell 1, h.cell 2, h.cell 3, h.cell 4⟩
end Go.Proofs.YtgkmfblmkfclbaaGreatDoor
