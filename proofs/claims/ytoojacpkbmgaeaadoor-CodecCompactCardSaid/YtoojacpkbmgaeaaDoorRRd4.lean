/- The reference's reader: one code. -/
import Derived.Test.YtoojacpkbmgaeaaDoorRRd3
namespace Go.Proofs.YtoojacpkbmgaeaaDoor
open Go.RowKit Pl

def RRPost (base g : Nat) (v : Value) (s : List Bool) (w : World) (o : Option (Int × List Bool)) (e : Ending) (w' : World) : Prop :=
  KeepsR g w w' ∧
  match o with
  | some (n, t) => e = .returned (.tuple #[.int .i64 n, .bool true]) ∧ ∃ a, RR w' base g v s a 0 ∧ t = s.drop a
  | none => ∃ n : Int, e = .returned (.tuple #[.int .i64 n, .bool false])

theorem len_inj {i j : Nat} (hi : i ≤ 5) (hj : j ≤ 5) (h : i + 1 + width i = j + 1 + width j) : i = j := by
  have h1 : i = 0 ∨ i = 1 ∨ i = 2 ∨ i = 3 ∨ i = 4 ∨ i = 5 := by omega
  have h2 : j = 0 ∨ j = 1 ∨ j = 2 ∨ j = 3 ∨ j = 4 ∨ j = 5 := by omega
  rcases h1 with rfl | rfl | rfl | rfl | rfl | rfl <;> rcases h2 with rfl | rfl | rfl | rfl | rfl | rfl <;> simp [width] at h ⊢

theorem Box.keepR {w w' : World} {g b : Nat} {t : TypeId} {cs : Array Value} (h : Box w b t cs) (k : KeepsR g w w') (hne : b ≠ g) : Box w' b t cs := h.keep k hne
theorem KeepsR.grew {g : Nat} {a w w' : World} (h : KeepsR g a w) (k : Grew w w') : KeepsR g a w' := Keeps.grew h k
theorem Grew.keepsR {g : Nat} {a w : World} (k : Grew a w) : KeepsR g a w := Grew.keeps k

set_option maxHeartbeats 6400000 in
set_option maxRecDepth 100000 in
theorem rread_any (g base : Nat) (v : Value) (s : List Bool) (a : Nat) (w : World) (h : RR w base g v s a 0) :
    Calls Tryd.prog 76 #[.pointer (some ⟨g, 0, none⟩)] w (RRPost base g v s w (parse (s.drop a))) := by
  have hsm := h.small
  have hhe := h.here
  have h1 := h.alloc (.cells #[.int .i64 0, .int .i64 4, .int .i64 8, .int .i64 16, .int .i64 32, .int .i64 64] 3)
  have hlt := h.box.lt
  have hbox := Box.new w 3 #[.int .i64 0, .int .i64 4, .int .i64 8, .int .i64 16, .int .i64 32, .int .i64 64]
  have hwid : ∀ j, j < 6 → (#[Value.int .i64 0, .int .i64 4, .int .i64 8, .int .i64 16, .int .i64 32, .int .i64 64] : Array Value)[j]? = some (.int .i64 (width j : Nat)) := by
    intro j hj
    have : j = 0 ∨ j = 1 ∨ j = 2 ∨ j = 3 ∨ j = 4 ∨ j = 5 := by omega
    rcases this with rfl | rfl | rfl | rfl | rfl | rfl <;> rfl
  have HWD := Lib.hid hwid
  clear hwid
  have c1 := h1.box.cell 1
  simp only [List.getElem?_toArray, List.getElem?_cons_zero, List.getElem?_cons_succ] at c1
  have HU := Lib.hid (rdunary_any g base v s a 5 _ h1 (by omega) (by omega))
  have hG1 : Grew w (w.alloc (.cells #[.int .i64 0, .int .i64 4, .int .i64 8, .int .i64 16, .int .i64 32, .int .i64 64] 3)) := (Grew.refl w).alloc _
  unfold parse
  cases ho : ones 5 (s.drop a) with
  | none =>
    simp only
    rw [ho] at HU
    clear ho
    go_enter Tryd.func76, Tryd.ntmps76
    go_wp2_with fail
    refine HU.out.mono ?_
    rintro e w2 ⟨k1, rfl, er, her, k2⟩
    have hb2 := hbox.keepR k1 (by omega)
    have cw : w2.cell? ⟨w.heap.size, 0, none⟩ = some (.int .i64 0) := (hb2.cell 0).trans (HWD.out 0 (by omega))
    have HBt := Lib.hid (rrbits_err g base v s a er w2 k2 her)
    have hne : (er != 0) = true := by rcases her with rfl | rfl <;> rfl
    clear her
    go_wp2_with fail
    refine HBt.out.mono ?_
    rintro e w3 ⟨rfl, k3, k4⟩
    have c2 := k4.box.cell 2
    simp only [List.getElem?_toArray, List.getElem?_cons_zero, List.getElem?_cons_succ] at c2
    have HBk := Lib.hid (back_any 0 w3 (by omega))
    go_wp2_with fail
    refine HBk.out.mono ?_
    rintro e w' ⟨rfl, rfl⟩
    go_wp2_with fail
    go_ret2
    exact ⟨(hG1.keepsR.trans k1).trans k3, _, rfl⟩
  | some p =>
    obtain ⟨i, t⟩ := p
    simp only
    obtain ⟨hd, hi5, hil⟩ := ones_drop ho
    rw [List.length_drop] at hil
    rw [List.drop_drop] at hd
    rw [ho] at HU
    have HD := Lib.hid hd
    have htl : t.length = s.length - (a + i + 1) := by rw [hd, List.length_drop]; omega
    have HTL := Lib.hid htl
    have hw64 := width_le i
    clear ho hd htl
    by_cases hshort : t.length < width i
    · rw [if_pos hshort]
      rw [HTL.out] at hshort
      go_enter Tryd.func76, Tryd.ntmps76
      go_wp2_with fail
      refine HU.out.mono ?_
      rintro e w2 ⟨k1, rfl, k2⟩
      have hb2 := hbox.keepR k1 (by omega)
      have cw : w2.cell? ⟨w.heap.size, i, none⟩ = some (.int .i64 (width i : Nat)) := (hb2.cell i).trans (HWD.out i (by omega))
      have HBt := Lib.hid (rrbits_short g base v s (a + i + 1) (width i) w2 k2 hw64 (by omega))
      go_wp2_with fail
      refine HBt.out.mono ?_
      rintro e w3 ⟨rfl, k3, k4⟩
      have c2 := k4.box.cell 2
      simp only [List.getElem?_toArray, List.getElem?_cons_zero, List.getElem?_cons_succ] at c2
      have HBk := Lib.hid (back_any 0 w3 (by omega))
      go_wp2_with fail
      refine HBk.out.mono ?_
      rintro e w' ⟨rfl, rfl⟩
      go_wp2_with fail
      go_ret2
      exact ⟨(hG1.keepsR.trans k1).trans k3, _, rfl⟩
    · rw [if_neg hshort]
      rw [HTL.out] at hshort
      have hzb : ∀ w2, RR w2 base g v s (a + i + 1) 0 → Calls Tryd.prog 114 #[.pointer (some ⟨g, 0, none⟩), .int .i64 (width i : Nat)] w2 fun e w' => e = .returned (.int .u64 (val (t.take (width i)) : Nat)) ∧ KeepsR g w2 w' ∧ RR w' base g v s (a + i + 1 + width i) 0 := by
        intro w2 k2
        rw [HD.out]
        exact rrbits_ok g base v s (a + i + 1) (width i) w2 k2 hw64 (by omega)
      have HZB := Lib.hid hzb
      have hzi : val (t.take (width i)) < 2 ^ width i := by
        have h1 := val_lt (t.take (width i))
        have h2 : (t.take (width i)).length ≤ width i := List.length_take_le _ _
        exact Nat.lt_of_lt_of_le h1 (Nat.pow_le_pow_right (by omega) h2)
      have hzl : val (t.take (width i)) < 18446744073709551616 := by
        have h3 := Nat.pow_le_pow_right (n := 2) (by omega) hw64
        have e64 : (2 : Nat) ^ 64 = 18446744073709551616 := by decide
        omega
      have HZL := Lib.hid hzl
      have hcan := idx_iff hi5 hzi
      have HCAN := Lib.hid hcan
      clear hzb hzl hzi hcan
      generalize val (t.take (width i)) = z at *
      have hui := unzig_I64 HZL.out
      have hcl : (code (unzig z)).length = idx z + 1 + width (idx z) := by rw [code_length, zig_unzig]
      have HCL := Lib.hid hcl
      have hcl70 := code_len_le (unzig z)
      clear hcl
      by_cases hc : 0 < i ∧ z < 2 ^ width (i - 1)
      · rw [if_pos hc]
        have hne : idx z ≠ i := by
          intro e
          have := HCAN.out.1 e
          omega
        have hlen : ((idx z + 1 + width (idx z) : Nat) : Int) ≠ ((a + i + 1 + width i : Nat) : Int) - (a : Int) := by
          intro e
          exact hne (len_inj (idx_le z) hi5 (by omega))
        have tb : ((idx z : Int) + 1 + (width (idx z) : Int) == (a : Int) + (i : Int) + 1 + (width i : Int) - (a : Int)) = false := by rw [beq_eq_false_iff_ne]; omega
        have tbw : ((idx z : Int) + 1 + (width (idx z) : Int) == IntKind.i64.wrap ((a : Int) + (i : Int) + 1 + (width i : Int) - (a : Int))) = false := by
          rw [IntWalk.i64_in _ (by omega)]; exact tb
        have TBW := Lib.hid tbw
        clear tb tbw
        have hil6 := idx_le z
        have hwl6 := width_le (idx z)
        clear hc hne hlen
        go_enter Tryd.func76, Tryd.ntmps76
        go_wp2_with fail
        refine HU.out.mono ?_
        rintro e w2 ⟨k1, rfl, k2⟩
        have hb2 := hbox.keepR k1 (by omega)
        have cw : w2.cell? ⟨w.heap.size, i, none⟩ = some (.int .i64 (width i : Nat)) := (hb2.cell i).trans (HWD.out i (by omega))
        have HBt := Lib.hid (HZB.out w2 k2)
        go_wp2_with fail
        refine HBt.out.mono ?_
        rintro e w3 ⟨rfl, k3, k4⟩
        have c2 := k4.box.cell 2
        have c1' := k4.box.cell 1
        simp only [List.getElem?_toArray, List.getElem?_cons_zero, List.getElem?_cons_succ] at c2 c1'
        have HBk := Lib.hid (back_any z w3 HZL.out)
        go_wp2_with fail
        refine HBk.out.mono ?_
        rintro e w' ⟨rfl, rfl⟩
        have HCo := Lib.hid (rcode_any (unzig z) w3.drew hui)
        go_wp2_with fail
        clear c1
        go_region_held3 (fun w' => w'.cell? ⟨g, 1, none⟩ = some (.int .i64 ((a + i + 1 + width i : Nat) : Int)))
          (first | assumption | go_keep | exact c1W)
          (first | (go_at_call 69; refine HCo.out.mono ?_; rintro e w4 ⟨v4, rfl, p1, p2⟩; obtain ⟨A4, n4, c4, rfl, hn4⟩ := p1.slice; have c1W := (Box.grew (w := w3.drew) k4.box p2).cell 1; simp only [List.getElem?_toArray, List.getElem?_cons_zero, List.getElem?_cons_succ] at c1W; rw [List.length_map, HCL.out] at hn4; subst hn4))
        go_wp2_with fail
        go_ret2
        rw [TBW.out]
        exact ⟨((hG1.keepsR.trans k1).trans k3).trans (Grew.keepsR (Keeps.trans (Keeps.drew (Grew.refl w3)) p2)), _, rfl⟩
      · rw [if_neg hc]
        have he : idx z = i := HCAN.out.2 (by omega)
        have tb : ((idx z : Int) + 1 + (width (idx z) : Int) == (a : Int) + (i : Int) + 1 + (width i : Int) - (a : Int)) = true := by rw [beq_iff_eq, he]; omega
        have tbw : ((idx z : Int) + 1 + (width (idx z) : Int) == IntKind.i64.wrap ((a : Int) + (i : Int) + 1 + (width i : Int) - (a : Int))) = true := by
          rw [IntWalk.i64_in _ (by omega)]; exact tb
        have TBW := Lib.hid tbw
        clear tb tbw
        have hil6 := idx_le z
        have hwl6 := width_le (idx z)
        clear hc he
        go_enter Tryd.func76, Tryd.ntmps76
        go_wp2_with fail
        refine HU.out.mono ?_
        rintro e w2 ⟨k1, rfl, k2⟩
        have hb2 := hbox.keepR k1 (by omega)
        have cw : w2.cell? ⟨w.heap.size, i, none⟩ = some (.int .i64 (width i : Nat)) := (hb2.cell i).trans (HWD.out i (by omega))
        have HBt := Lib.hid (HZB.out w2 k2)
        go_wp2_with fail
        refine HBt.out.mono ?_
        rintro e w3 ⟨rfl, k3, k4⟩
        have c2 := k4.box.cell 2
        have c1' := k4.box.cell 1
        simp only [List.getElem?_toArray, List.getElem?_cons_zero, List.getElem?_cons_succ] at c2 c1'
        have HBk := Lib.hid (back_any z w3 HZL.out)
        go_wp2_with fail
        refine HBk.out.mono ?_
        rintro e w' ⟨rfl, rfl⟩
        have HCo := Lib.hid (rcode_any (unzig z) w3.drew hui)
        go_wp2_with fail
        clear c1
        go_region_held3 (fun w' => w'.cell? ⟨g, 1, none⟩ = some (.int .i64 ((a + i + 1 + width i : Nat) : Int)))
          (first | assumption | go_keep | exact c1W)
          (first | (go_at_call 69; refine HCo.out.mono ?_; rintro e w4 ⟨v4, rfl, p1, p2⟩; obtain ⟨A4, n4, c4, rfl, hn4⟩ := p1.slice; have c1W := (Box.grew (w := w3.drew) k4.box p2).cell 1; simp only [List.getElem?_toArray, List.getElem?_cons_zero, List.getElem?_cons_succ] at c1W; rw [List.length_map, HCL.out] at hn4; subst hn4))
        go_wp2_with fail
        go_ret2
        rw [TBW.out]
        refine ⟨((hG1.keepsR.trans k1).trans k3).trans (Grew.keepsR (Keeps.trans (Keeps.drew (Grew.refl w3)) p2)), rfl, _, RR.grew (w := w3.drew) (k4.drewN 1) p2, ?_⟩
        rw [HD.out, List.drop_drop]; rfl
end Go.Proofs.YtoojacpkbmgaeaaDoor
