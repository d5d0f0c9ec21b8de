/- A block (five cells) in a box of its own: read and written whole; a result that lies in a cell. Chapter 18: of, plain. The reference: whether a claim is encodable; numbers kept in a range; differences of a list. -/
import Derived.Test.YtgajmhpnilkmiaaDoorBlockIdsP14
import Derived.Test.YtgajmhpnilkmiaaDoorBlockIdsP12
import Derived.Test.YtgajmhpnilkmiaaDoorBlockIdsP13
import Derived.Test.YtgajmhpnilkmiaaDoorBlockIdsP19
namespace Go.Proofs.YtgajmhpnilkmiaaDoor
open Go.RowKit Pl

def cells5 (x : Clm) (v : Value) : List Value := [.int .i64 x.1, .int .i64 x.2.1, .int .i64 x.2.2.1, .int .i64 x.2.2.2, v]
theorem vbl_cells (x : Clm) (v : Value) : vbl x v = .agg (cells5 x v).toArray := rfl
theorem infoR : (Tryd.prog.info? 55).map (·.size) = some 5 := by kernel_rfl
theorem infoB : (Tryd.prog.info? 59).map (·.size) = some 5 := by kernel_rfl
theorem Box.there5 {w : World} {g : Nat} {t : TypeId} {d : Clm} {v : Value} (h : Box w g t (cells5 d v).toArray) : w.there g 0 5 := by
  intro j hj
  refine ⟨?_, ?_⟩
  · rw [Nat.zero_add, h.cell]
    simp [cells5, hj]
  · rw [Nat.zero_add]; exact h.frozen j
theorem Box.range5 {w : World} {g : Nat} {t : TypeId} {d : Clm} {v : Value} (h : Box w g t (cells5 d v).toArray) : w.rangeAt g 0 (cells5 d v) := fun j u hu => by
  rw [Nat.zero_add, h.cell]
  simpa using hu
theorem put5_keeps (w : World) (g : Nat) (c : Clm) (v : Value) : Keeps (fun i => i = g) w (w.setCells g 0 (cells5 c v)) := by
  show Keeps _ w (((((w.setCell ⟨g, 0, none⟩ _).setCell ⟨g, 1, none⟩ _).setCell ⟨g, 2, none⟩ _).setCell ⟨g, 3, none⟩ _).setCell ⟨g, 4, none⟩ _)
  exact (((((Keeps.refl (fun i => i = g) w).setCell (p := ⟨g, 0, none⟩) (.inl rfl) _).setCell (p := ⟨g, 1, none⟩) (.inl rfl) _).setCell (p := ⟨g, 2, none⟩) (.inl rfl) _).setCell (p := ⟨g, 3, none⟩) (.inl rfl) _).setCell (p := ⟨g, 4, none⟩) (.inl rfl) _
theorem Box.put5 {w : World} {g : Nat} {t : TypeId} {a : Clm} {u : Value} (h : Box w g t (cells5 a u).toArray) (c : Clm) (v : Value) : Box (w.setCells g 0 (cells5 c v)) g t (cells5 c v).toArray := by
  have h1 := ((((h.set_ 0 (.int .i64 c.1)).set_ 1 (.int .i64 c.2.1)).set_ 2 (.int .i64 c.2.2.1)).set_ 3 (.int .i64 c.2.2.2)).set_ 4 v
  show Box (((((w.setCell ⟨g, 0, none⟩ _).setCell ⟨g, 1, none⟩ _).setCell ⟨g, 2, none⟩ _).setCell ⟨g, 3, none⟩ _).setCell ⟨g, 4, none⟩ _) g t _
  simpa [cells5] using h1
section
variable {ops : Array Oper} {rest : List Oper} {o : Oper} {a : Act} {w : World} {Q : Exit → Act → World → Prop}
theorem st5 (T : TypeId) (hT : (Tryd.prog.info? T).map (·.size) = some 5) (x y : Operand) (g : Nat) (c d : Clm) (v u : Value) (t : TypeId) (hv : v.oneCell' = true) (hgd : o.guard = none) (ho : o.op = .store T x y)
    (hx : a.eval x = .pointer (some ⟨g, 0, none⟩)) (hy : a.eval y = .agg (cells5 c v).toArray) (hb : Box w g t (cells5 d u).toArray)
    (h : ∀ w', Box w' g t (cells5 c v).toArray → Keeps (fun i => i = g) w w' → wpList Tryd.prog ops Q rest (a.put o.dst undef) w') : wpList Tryd.prog ops Q (o :: rest) a w := by
  refine wpList_store_mid hgd T x y ho g 0 (cells5 c v).toArray hx hy hb.there5 hT ?_ ?_
  · simp [cells5, hv]; simp [Value.oneCell']
  · exact h _ (hb.put5 c v) (put5_keeps w g c v)
theorem ld5 (T : TypeId) (hT : (Tryd.prog.info? T).map (·.size) = some 5) {d : TypeDesc} (hu : Tryd.prog.underlying T = some d) (hd : d.isRow = true) (x : Operand) (g : Nat) (c : Clm) (v : Value) (t : TypeId) (hgd : o.guard = none) (ho : o.op = .load T x)
    (hx : a.eval x = .pointer (some ⟨g, 0, none⟩)) (hb : Box w g t (cells5 c v).toArray)
    (h : wpList Tryd.prog ops Q rest (a.put o.dst (.agg (cells5 c v).toArray)) w) : wpList Tryd.prog ops Q (o :: rest) a w :=
  wpList_load_mid hgd T x ho g 0 hx (cells5 c v) _ hb.range5 hu hd hT h
end
theorem results_cell5 {fn : Func} {p : Tmp} {ty : TypeId} (h : fn.results = #[.cell p ty]) {tmps : Array Value} {w : World} {g : Nat} {c : Clm} {v : Value} {t : TypeId} (hp : tmps.getD p undef = .pointer (some ⟨g, 0, none⟩)) (hT : (Tryd.prog.info? ty).map (·.size) = some 5) {d : TypeDesc} (hu : Tryd.prog.underlying ty = some d) (hd : d.isRow = true) (hb : Box w g t (cells5 c v).toArray) :
    (results fn tmps).run Tryd.prog w = .ok (vbl c v) w := by
  have hl := run_loadVar_mid (P := Tryd.prog) w g 0 ty (cells5 c v) d hb.range5 hu hd hT
  simp only [results, h]
  rw [Array.getD_eq_getD_getElem?] at hp
  simp [Sem.run_bind, hp, Result.andThen, hl, asAddr, vbl_cells]
end Go.Proofs.YtgajmhpnilkmiaaDoor
namespace Go.Proofs.YtgajmhpnilkmiaaDoor
open Go.RowKit Pl

theorem Box.five {w : World} {g : Nat} {t : TypeId} {c : Clm} {v : Value} (h : Box w g t (cells5 c v).toArray) :
    w.cell? ⟨g, 0, none⟩ = some (.int .i64 c.1) ∧ w.cell? ⟨g, 1, none⟩ = some (.int .i64 c.2.1) ∧ w.cell? ⟨g, 2, none⟩ = some (.int .i64 c.2.2.1) ∧ w.cell? ⟨g, 3, none⟩ = some (.int .i64 c.2.2.2) ∧ w.cell? ⟨g, 4, none⟩ = some v :=
  ⟨h.cell 0, h.cell 1, h.cell 2, h.cell 3, h.cell 4⟩
set_option maxHeartbeats 6400000 in
set_option maxRecDepth 100000 in
theorem of_any (x : Clm) (A : Option Addr) (n c : Nat) (w : World) :
    Calls Tryd.prog 23 #[vbl x (.slice A n c)] w fun e w' => e = .returned (vbl x (.slice A n c)) ∧ Grew w w' := by
  have HG := Lib.hid (((Grew.refl w).alloc (.cells (cells5 x (.slice A n c)).toArray 55)).alloc (.cells (cells5 zc (.slice none 0 0)).toArray 59))
  have HB := Lib.hid ((Box.new w 55 (cells5 x (.slice A n c)).toArray).alloc (.cells (cells5 zc (.slice none 0 0)).toArray 59))
  have HN := Lib.hid (Box.new (w.alloc (.cells (cells5 x (.slice A n c)).toArray 55)) 59 (cells5 zc (.slice none 0 0)).toArray)
  rw [World.size_alloc] at HN
  unfold vbl
  go_enter Tryd.func23, Tryd.ntmps23
  go_upto_region 1 with fail
  change Code.wp _ _ _ _ ((w.alloc (.cells (cells5 x (.slice A n c)).toArray 55)).alloc (.cells (cells5 zc (.slice none 0 0)).toArray 59))
  generalize (w.alloc (.cells (cells5 x (.slice A n c)).toArray 55)).alloc (.cells (cells5 zc (.slice none 0 0)).toArray 59) = w1 at *
  obtain ⟨c0, c1, c2, c3, c4⟩ := HB.out.five
  go_wp2_with (refine st5 59 infoB (.tmp 2) (.tmp 13) (w.heap.size + 1) x _ (.slice A n c) _ _ rfl rfl rfl rfl rfl HN.out ?_; intro w2 hb2 hk2; clear c0 c1 c2 c3 c4)
  exact bodyPost_ret (v := vbl x (.slice A n c)) (results_cell5 rfl rfl infoB Tryd.underlying59 rfl hb2) rfl ⟨rfl, Keeps.then_ HG.out hk2 (fun i hi e => by omega)⟩
end Go.Proofs.YtgajmhpnilkmiaaDoor
namespace Go.Proofs.YtgajmhpnilkmiaaDoor
open Go.RowKit Pl

theorem cells4_at (c : Clm) (j : Nat) (hj : j < 4) : (cells4 c).toArray[j]? = some (.int .i64 ((l4 c).getD j 0)) := by
  have : j = 0 ∨ j = 1 ∨ j = 2 ∨ j = 3 := by omega
  rcases this with rfl | rfl | rfl | rfl <;> rfl
theorem okC_l4 (c : Clm) : okC c ↔ ∀ x ∈ l4 c, R40 x := by unfold okC l4; simp
theorem l4_get (c : Clm) (j : Nat) (hj : j < 4) : (l4 c)[j]? = some ((l4 c).getD j 0) := by
  have : j = 0 ∨ j = 1 ∨ j = 2 ∨ j = 3 := by omega
  rcases this with rfl | rfl | rfl | rfl <;> rfl

set_option maxHeartbeats 1600000 in
set_option maxRecDepth 100000 in
theorem rencodable_any (c : Clm) (w : World) :
    Calls Tryd.prog 83 #[vc c] w fun e w' => e = .returned (.bool (decide (okC c))) ∧ Grew w w' := by
  have hG0 : Grew w ((w.alloc (.cells #[.int .i64 c.1, .int .i64 c.2.1, .int .i64 c.2.2.1, .int .i64 c.2.2.2] 116)).alloc (.cells #[.int .i64 c.1, .int .i64 c.2.1, .int .i64 c.2.2.1, .int .i64 c.2.2.2] 3)) := ((Grew.refl w).alloc _).alloc _
  have hb0 : Box ((w.alloc (.cells #[.int .i64 c.1, .int .i64 c.2.1, .int .i64 c.2.2.1, .int .i64 c.2.2.2] 116)).alloc (.cells #[.int .i64 c.1, .int .i64 c.2.1, .int .i64 c.2.2.1, .int .i64 c.2.2.2] 3)) (w.heap.size + 1) 3 (cells4 c).toArray := by
    have := Box.new (w.alloc (.cells #[.int .i64 c.1, .int .i64 c.2.1, .int .i64 c.2.2.1, .int .i64 c.2.2.2] 116)) 3 (cells4 c).toArray
    rw [World.size_alloc] at this
    exact this
  have HG0 := Lib.hid hG0
  have HB0 := Lib.hid hb0
  unfold vc cells4
  clear hG0 hb0
  go_enter Tryd.func83, Tryd.ntmps83
  go_wp2_with fail
  go_loopw [4] (fun i wr => ∃ (j : Nat), j ≤ 4 ∧ i = .int .i64 j ∧ Box wr (w.heap.size + 1) 3 (cells4 c).toArray ∧ Grew w wr ∧ ∀ x ∈ (l4 c).take j, R40 x) (fun i _ => 4 - (intOf i).toNat)
  case atStart => exact ⟨0, by omega, rfl, HB0.out, HG0.out, by simp⟩
  case round =>
    clear HB0 HG0
    obtain ⟨j, hj, rfl, hb, hGr, hall⟩ := hrel
    have HALL := Lib.hid hall
    clear hall
    by_cases hlt : j < 4
    · have hcell := (hb.cell j).trans (cells4_at c j hlt)
      have HX := Lib.hid (l4_get c j hlt)
      have HB := Lib.hid hb
      clear hb
      generalize (l4 c).getD j 0 = x at *
      by_cases hr : R40 x
      · have HST := Lib.hid (take_r40 HALL.out HX.out hr)
        have t1 : decide (x < -1099511627776) = false := by unfold R40 at hr; simp; omega
        have t2 : decide (1099511627776 < x) = false := by unfold R40 at hr; simp; omega
        clear hr
        go_wp2_with fail
        go_roundw
        case rel => exact ⟨j + 1, by omega, by go_num, HB.out, hGr, HST.out⟩
        case measure => simp [intOf]; omega
      · have hD : decide (okC c) = false := by
          rw [decide_eq_false_iff_not, okC_l4]
          exact fun k => hr (k x (List.mem_of_getElem? HX.out))
        have HD := Lib.hid hD
        clear hD
        by_cases hl : x < -1099511627776
        · have t1 : decide (x < -1099511627776) = true := by simp [hl]
          clear hr hl
          go_wp2_with fail
          go_ret
          exact ⟨by rw [HD.out]; rfl, hGr⟩
        · have t1 : decide (x < -1099511627776) = false := by simp; omega
          have t2 : decide (1099511627776 < x) = true := by unfold R40 at hr; simp; omega
          clear hr hl
          go_wp2_with fail
          go_ret
          exact ⟨by rw [HD.out]; rfl, hGr⟩
    · have hD : decide (okC c) = true := by
        rw [decide_eq_true_eq, okC_l4]
        have := HALL.out
        rwa [List.take_of_length_le (by simp [l4]; omega)] at this
      have HD := Lib.hid hD
      clear hD
      go_wp2_with fail
      go_ret
      exact ⟨by rw [HD.out]; rfl, hGr⟩

/- a number brought into the range from -m to m -/
def bnd (n : Int) (m : Nat) : Int := (arnd n (2 * m + 1) : Nat) - (m : Int)
theorem bnd_range (n : Int) (m : Nat) : -(m : Int) ≤ bnd n m ∧ bnd n m ≤ m := by
  have := arnd_lt n (2 * m + 1) (by omega)
  unfold bnd; omega
theorem bound_any (n : Int) (m : Nat) (w : World) (hn : I64 n) (hm : m ≤ 2305843009213693952) :
    Calls Tryd.prog 82 #[.int .i64 n, .int .i64 (m : Nat)] w fun e w' => e = .returned (.int .i64 (bnd n m)) ∧ w = w' := by
  have hA := around_any n (2 * m + 1) w hn (by omega) (by omega)
  have e1 : ((2 * m + 1 : Nat) : Int) = 2 * (m : Int) + 1 := by omega
  rw [e1] at hA
  have HA := Lib.hid hA
  have hb := bnd_range n m
  have ha := arnd_lt n (2 * m + 1) (by omega)
  unfold bnd at hb ⊢
  clear hA e1
  go_enter Tryd.func82, Tryd.ntmps82
  go_wp2_with (go_at_call 29; refine HA.out.mono ?_; rintro e w' ⟨rfl, rfl⟩)
  go_ret
  exact ⟨rfl, rfl⟩

end Go.Proofs.YtgajmhpnilkmiaaDoor
