/- The reference's reader: one code. The reference's ReadInts. -/
import Derived.Test.YtjiiiimhegkklaaDoorBlockDecodesP11
namespace Go.Proofs.YtjiiiimhegkklaaDoor
open Go.RowKit Pl

def RRPost (base g : Nat) (v : Value) (s : List Bool) (w : World) (o : Option (Int × List Bool)) (e : Ending) (w' : World) : Prop :=
  KeepsR g w w' ∧
  match o with
  | some (n, t) => e = .returned (.tuple #[.int .i64 n, .bool true]) ∧ ∃ a, RR w' base g v s a 0 ∧ t = s.drop a
  | none => ∃ n : Int, e = .returned (.tuple #[.int .i64 n, .bool false])

theorem len_inj {i j : Nat} (hi : i ≤ 5) (hj : j ≤ 5) (h : i + 1 + width i = j + 1 + width j) : i = j := by
  have h1 : i = 0 ∨ i = 1 ∨ i = 2 ∨ i = 3 ∨ i = 4 ∨ i = 5 := by omega
  have h2 : j = 0 ∨ j = 1 ∨ j = 2 ∨ j = 3 ∨ j = 4 ∨ j = 5 := by omega
  rcases h1 with rfl | rfl | rfl | rfl | rfl | rfl <;> rcases h2 with rfl | rfl | rfl | rfl | rfl | rfl <;> simp [width] at h ⊢

theorem Box.keepR {w w' : World} {g b : Nat} {t : TypeId} {cs : Array Value} (h : Box w b t cs) (k : KeepsR g w w') (hne : b ≠ g) : Box w' b t cs := h.keep k hne
theorem KeepsR.grew {g : Nat} {a w w' : World} (h : KeepsR g a w) (k : Grew w w') : KeepsR g a w' := Keeps.grew h k
theorem Grew.keepsR {g : Nat} {a w : World} (k : Grew a w) : KeepsR g a w := Grew.keeps k

set_option maxHeartbeats 6400000 in
set_option maxRecDepth 100000 in
theorem rread_any (g base : Nat) (v : Value) (s : List Bool) (a : Nat) (w : World) (h : RR w base g v s a 0) :
    Calls Tryd.prog 76 #[.pointer (some ⟨g, 0, none⟩)] w (RRPost base g v s w (parse (s.drop a))) := by
  have hsm := h.small
  have hhe := h.here
  have h1 := h.alloc (.cells #[.int .i64 0, .int .i64 4, .int .i64 8, .int .i64 16, .int .i64 32, .int .i64 64] 3)
  have hlt := h.box.lt
  have hbox := Box.new w 3 #[.int .i64 0, .int .i64 4, .int .i64 8, .int .i64 16, .int .i64 32, .int .i64 64]
  have hwid : ∀ j, j < 6 → (#[Value.int .i64 0, .int .i64 4, .int .i64 8, .int .i64 16, .int .i64 32, .int .i64 64] : Array Value)[j]? = some (.int .i64 (width j : Nat)) := by
    intro j hj
    have : j = 0 ∨ j = 1 ∨ j = 2 ∨ j = 3 ∨ j = 4 ∨ j = 5 := by omega
    rcases this with rfl | rfl | rfl | rfl | rfl | rfl <;> rfl
  have HWD := Lib.hid hwid
  clear hwid
  have c1 := h1.box.cell 1
  simp only [List.getElem?_toArray, List.getElem?_cons_zero, List.getElem?_cons_succ] at c1
  have HU := Lib.hid (rdunary_any g base v s a 5 _ h1 (by omega) (by omega))
  have hG1 : Grew w (w.alloc (.cells #[.int .i64 0, .int .i64 4, .int .i64 8, .int .i64 16, .int .i64 32, .int .i64 64] 3)) := (Grew.refl w).alloc _
  unfold parse
  cases ho : ones 5 (s.drop a) with
  | none =>
    simp only
    rw [ho] at HU
    clear ho
    go_enter Tryd.func76, Tryd.ntmps76
    go_wp2_with fail
    refine HU.out.mono ?_
    rintro e w2 ⟨k1, rfl, er, her, k2⟩
    have hb2 := hbox.keepR k1 (by omega)
    have cw : w2.cell? ⟨w.heap.size, 0, none⟩ = some (.int .i64 0) := (hb2.cell 0).trans (HWD.out 0 (by omega))
    have HBt := Lib.hid (rrbits_err g base v s a er w2 k2 her)
    have hne : (er != 0) = true := by rcases her with rfl | rfl <;> rfl
    clear her
    go_wp2_with fail
    refine HBt.out.mono ?_
    rintro e w3 ⟨rfl, k3, k4⟩
    have c2 := k4.box.cell 2
    simp only [List.getElem?_toArray, List.getElem?_cons_zero, List.getElem?_cons_succ] at c2
    have HBk := Lib.hid (back_any 0 w3 (by omega))
    go_wp2_with fail
    refine HBk.out.mono ?_
    rintro e w' ⟨rfl, rfl⟩
    go_wp2_with fail
    go_ret2
    exact ⟨(hG1.keepsR.trans k1).trans k3, _, rfl⟩
  | some p =>
    obtain ⟨i, t⟩ := p
    simp only
    obtain ⟨hd, hi5, hil⟩ := ones_drop ho
    rw [List.length_drop] at hil
    rw [List.drop_drop] at hd
    rw [ho] at HU
    have HD := Lib.hid hd
    have htl : t.length = s.length - (a + i + 1) := by rw [hd, List.length_drop]; omega
    have HTL := Lib.hid htl
    have hw64 := width_le i
    clear ho hd htl
    by_cases hshort : t.length < width i
    · rw [if_pos hshort]
      rw [HTL.out] at hshort
      go_enter Tryd.func76, Tryd.ntmps76
      go_wp2_with fail
      refine HU.out.mono ?_
      rintro e w2 ⟨k1, rfl, k2⟩
      have hb2 := hbox.keepR k1 (by omega)
      have cw : w2.cell? ⟨w.heap.size, i, none⟩ = some (.int .i64 (width i : Nat)) := (hb2.cell i).trans (HWD.out i (by omega))
      have HBt := Lib.hid (rrbits_short g base v s (a + i + 1) (width i) w2 k2 hw64 (by omega))
      go_wp2_with fail
      refine HBt.out.mono ?_
      rintro e w3 ⟨rfl, k3, k4⟩
      have c2 := k4.box.cell 2
      simp only [List.getElem?_toArray, List.getElem?_cons_zero, List.getElem?_cons_succ] at c2
      have HBk := Lib.hid (back_any 0 w3 (by omega))
      go_wp2_with fail
      refine HBk.out.mono ?_
      rintro e w' ⟨rfl, rfl⟩
      go_wp2_with fail
      go_ret2
      exact ⟨(hG1.keepsR.trans k1).trans k3, _, rfl⟩
    · rw [if_neg hshort]
      rw [HTL.out] at hshort
      have hzb : ∀ w2, RR w2 base g v s (a + i + 1) 0 → Calls Tryd.prog 114 #[.pointer (some ⟨g, 0, none⟩), .int .i64 (width i : Nat)] w2 fun e w' => e = .returned (.int .u64 (val (t.take (width i)) : Nat)) ∧ KeepsR g w2 w' ∧ RR w' base g v s (a + i + 1 + width i) 0 := by
        intro w2 k2
        rw [HD.out]
        exact rrbits_ok g base v s (a + i + 1) (width i) w2 k2 hw64 (by omega)
      have HZB := Lib.hid hzb
      have hzi : val (t.take (width i)) < 2 ^ width i := by
        have h1 := val_lt (t.take (width i))
        have h2 : (t.take (width i)).length ≤ width i := List.length_take_le _ _
        exact Nat.lt_of_lt_of_le h1 (Nat.pow_le_pow_right (by omega) h2)
      have hzl : val (t.take (width i)) < 18446744073709551616 := by
        have h3 := Nat.pow_le_pow_right (n := 2) (by omega) hw64
        have e64 : (2 : Nat) ^ 64 = 18446744073709551616 := by decide
        omega
      have HZL := Lib.hid hzl
      have hcan := idx_iff hi5 hzi
      have HCAN := Lib.hid hcan
      clear hzb hzl hzi hcan
      generalize val (t.take (width i)) = z at *
      have hui := unzig_I64 HZL.out
      have hcl : (code (unzig z)).length = idx z + 1 + width (idx z) := by rw [code_length, zig_unzig]
      have HCL := Lib.hid hcl
      have hcl70 := code_len_le (unzig z)
      clear hcl
      by_cases hc : 0 < i ∧ z < 2 ^ width (i - 1)
      · rw [if_pos hc]
        have hne : idx z ≠ i := by
          intro e
          have := HCAN.out.1 e
          omega
        have hlen : ((idx z + 1 + width (idx z) : Nat) : Int) ≠ ((a + i + 1 + width i : Nat) : Int) - (a : Int) := by
          intro e
          exact hne (len_inj (idx_le z) hi5 (by omega))
        have tb : ((idx z : Int) + 1 + (width (idx z) : Int) == (a : Int) + (i : Int) + 1 + (width i : Int) - (a : Int)) = false := by rw [beq_eq_false_iff_ne]; omega
        have tbw : ((idx z : Int) + 1 + (width (idx z) : Int) == IntKind.i64.wrap ((a : Int) + (i : Int) + 1 + (width i : Int) - (a : Int))) = false := by
          rw [IntWalk.i64_in _ (by omega)]; exact tb
        have TBW := Lib.hid tbw
        clear tb tbw
        have hil6 := idx_le z
        have hwl6 := width_le (idx z)
        clear hc hne hlen
        go_enter Tryd.func76, Tryd.ntmps76
        go_wp2_with fail
        refine HU.out.mono ?_
        rintro e w2 ⟨k1, rfl, k2⟩
        have hb2 := hbox.keepR k1 (by omega)
        have cw : w2.cell? ⟨w.heap.size, i, none⟩ = some (.int .i64 (width i : Nat)) := (hb2.cell i).trans (HWD.out i (by omega))
        have HBt := Lib.hid (HZB.out w2 k2)
        go_wp2_with fail
        refine HBt.out.mono ?_
        rintro e w3 ⟨rfl, k3, k4⟩
        have c2 := k4.box.cell 2
        have c1' := k4.box.cell 1
        simp only [List.getElem?_toArray, List.getElem?_cons_zero, List.getElem?_cons_succ] at c2 c1'
        have HBk := Lib.hid (back_any z w3 HZL.out)
        go_wp2_with fail
        refine HBk.out.mono ?_
        rintro e w' ⟨rfl, rfl⟩
        have HCo := Lib.hid (rcode_any (unzig z) w3.drew hui)
        go_wp2_with fail
        clear c1
        go_region_held3 (fun w' => w'.cell? ⟨g, 1, none⟩ = some (.int .i64 ((a + i + 1 + width i : Nat) : Int)))
          (first | assumption | go_keep | exact c1W)
          (first | (go_at_call 69; refine HCo.out.mono ?_; rintro e w4 ⟨v4, rfl, p1, p2⟩; obtain ⟨A4, n4, c4, rfl, hn4⟩ := p1.slice; have c1W := (Box.grew (w := w3.drew) k4.box p2).cell 1; simp only [List.getElem?_toArray, List.getElem?_cons_zero, List.getElem?_cons_succ] at c1W; rw [List.length_map, HCL.out] at hn4; subst hn4))
        go_wp2_with fail
        go_ret2
        rw [TBW.out]
        exact ⟨((hG1.keepsR.trans k1).trans k3).trans (Grew.keepsR (Keeps.trans (Keeps.drew (Grew.refl w3)) p2)), _, rfl⟩
      · rw [if_neg hc]
        have he : idx z = i := HCAN.out.2 (by omega)
        have tb : ((idx z : Int) + 1 + (width (idx z) : Int) == (a : Int) + (i : Int) + 1 + (width i : Int) - (a : Int)) = true := by rw [beq_iff_eq, he]; omega
        have tbw : ((idx z : Int) + 1 + (width (idx z) : Int) == IntKind.i64.wrap ((a : Int) + (i : Int) + 1 + (width i : Int) - (a : Int))) = true := by
          rw [IntWalk.i64_in _ (by omega)]; exact tb
        have TBW := Lib.hid tbw
        clear tb tbw
        have hil6 := idx_le z
        have hwl6 := width_le (idx z)
        clear hc he
        go_enter Tryd.func76, Tryd.ntmps76
        go_wp2_with fail
        refine HU.out.mono ?_
        rintro e w2 ⟨k1, rfl, k2⟩
        have hb2 := hbox.keepR k1 (by omega)
        have cw : w2.cell? ⟨w.heap.size, i, none⟩ = some (.int .i64 (width i : Nat)) := (hb2.cell i).trans (HWD.out i (by omega))
        have HBt := Lib.hid (HZB.out w2 k2)
        go_wp2_with fail
        refine HBt.out.mono ?_
        rintro e w3 ⟨rfl, k3, k4⟩
        have c2 := k4.box.cell 2
        have c1' := k4.box.cell 1
        simp only [List.getElem?_toArray, List.getElem?_cons_zero, List.getElem?_cons_succ] at c2 c1'
        have HBk := Lib.hid (back_any z w3 HZL.out)
        go_wp2_with fail
        refine HBk.out.mono ?_
        rintro e w' ⟨rfl, rfl⟩
        have HCo := Lib.hid (rcode_any (unzig z) w3.drew hui)
        go_wp2_with fail
        clear c1
        go_region_held3 (fun w' => w'.cell? ⟨g, 1, none⟩ = some (.int .i64 ((a + i + 1 + width i : Nat) : Int)))
          (first | assumption | go_keep | exact c1W)
          (first | (go_at_call 69; refine HCo.out.mono ?_; rintro e w4 ⟨v4, rfl, p1, p2⟩; obtain ⟨A4, n4, c4, rfl, hn4⟩ := p1.slice; have c1W := (Box.grew (w := w3.drew) k4.box p2).cell 1; simp only [List.getElem?_toArray, List.getElem?_cons_zero, List.getElem?_cons_succ] at c1W; rw [List.length_map, HCL.out] at hn4; subst hn4))
        go_wp2_with fail
        go_ret2
        rw [TBW.out]
        refine ⟨((hG1.keepsR.trans k1).trans k3).trans (Grew.keepsR (Keeps.trans (Keeps.drew (Grew.refl w3)) p2)), rfl, _, RR.grew (w := w3.drew) (k4.drewN 1) p2, ?_⟩
        rw [HD.out, List.drop_drop]; rfl
end Go.Proofs.YtjiiiimhegkklaaDoor
namespace Go.Proofs.YtjiiiimhegkklaaDoor
open Go.RowKit Pl

theorem RR.aside {w w' : World} {base g base' : Nat} {v u : Value} {s : List Bool} {a : Nat} {er : Int} {e : TypeId} {xs : List Value} (h : RR w base g v s a er) (hm : Mine w base' e u xs) (h1 : e ≠ 4) (h2 : e ≠ 119) (hk : Keeps (fun i => u.ownBlock = some i) w w') : RR w' base g v s a er :=
  ⟨h.box.keep hk (fun e1 => hm.ne_box e1 h.box h2 rfl), h.row.aside hm h1 hk, h.small, h.here⟩
theorem step_back (d la be : Int) : wrap64 (la + wrap64 (wrap64 (la - be) + d)) = wrap64 (d + 2 * la - be) := by unfold wrap64; omega
theorem step_next (d la be : Int) : wrap64 (wrap64 (la - be) + d) = wrap64 (wrap64 (d + 2 * la - be) - la) := by unfold wrap64; omega

set_option maxHeartbeats 6400000 in
set_option maxRecDepth 100000 in
theorem rreadInts_any (v : Value) (bs : List Nat) (w : World) (h : Rd w w.heap.size v (bs.map vb)) (hb : Bytes bs) (hs : bs.length ≤ 100000) :
    Calls Tryd.prog 28 #[v] w (RIPost bs w (refReadInts bs)) := by
  have HU := Lib.hid (unpack_any v bs w h hb (by omega))
  have hbl := bitsOf_length bs
  have HBL := Lib.hid hbl
  have hbs : (bitsOf bs).length ≤ 800000 := by omega
  have hb0 : (bitsOf bs).drop 0 = bitsOf bs := rfl
  clear hbl
  unfold refReadInts
  cases hp : parse (bitsOf bs) with
  | none =>
    simp only
    have HP := Lib.hid hp
    clear hp
    go_enter Tryd.func28, Tryd.ntmps28
    go_wp2_with (go_at_call 75; refine HU.out.mono ?_; rintro e w2 ⟨v2, rfl, k1, k2⟩; obtain ⟨A2, n2, c2, rfl, hn2⟩ := k1.slice; have HN2 := Lib.hid hn2; clear hn2)
    have hR2 : RR (w2.alloc (.cells #[.slice A2 n2 c2, .int .i64 0, .int .i64 0] 119)) w.heap.size w2.heap.size (.slice A2 n2 c2) (bitsOf bs) 0 0 := ⟨Box.new _ _ _, k1.alloc _, by omega, by omega⟩
    have HRd := Lib.hid (rread_any _ _ _ _ 0 _ hR2)
    rw [hb0, HP.out] at HRd
    refine HRd.out.mono ?_
    rintro e w3 ⟨m1, n', rfl⟩
    go_wp2_with fail
    go_ret2
    exact ⟨(k2.alloc _).thenR m1 k2.size, rfl⟩
  | some p =>
    obtain ⟨n, t⟩ := p
    simp only
    have hni := (code_parse hp).2
    have hpl := parse_length hp
    have HP := Lib.hid hp
    clear hp
    by_cases hn0 : n < 0
    · rw [if_pos (.inl hn0)]
      have hdn : decide (n < 0) = true := by simp [hn0]
      go_enter Tryd.func28, Tryd.ntmps28
      go_wp2_with (go_at_call 75; refine HU.out.mono ?_; rintro e w2 ⟨v2, rfl, k1, k2⟩; obtain ⟨A2, n2, c2, rfl, hn2⟩ := k1.slice; have HN2 := Lib.hid hn2; clear hn2)
      have hR2 : RR (w2.alloc (.cells #[.slice A2 n2 c2, .int .i64 0, .int .i64 0] 119)) w.heap.size w2.heap.size (.slice A2 n2 c2) (bitsOf bs) 0 0 := ⟨Box.new _ _ _, k1.alloc _, by omega, by omega⟩
      have HRd := Lib.hid (rread_any _ _ _ _ 0 _ hR2)
      rw [hb0, HP.out] at HRd
      refine HRd.out.mono ?_
      rintro e w3 ⟨m1, rfl, a, m2, m3⟩
      clear m3
      go_wp2_with fail
      go_ret2
      exact ⟨(k2.alloc _).thenR m1 k2.size, rfl⟩
    · have hdn : decide (n < 0) = false := by simp; omega
      obtain ⟨N, rfl⟩ := Int.eq_ofNat_of_zero_le (Int.not_lt.1 hn0)
      obtain ⟨_, hN⟩ := hni
      by_cases hbig : (bitsOf bs).length < N
      · rw [if_pos (.inr (by omega))]
        go_enter Tryd.func28, Tryd.ntmps28
        go_wp2_with (go_at_call 75; refine HU.out.mono ?_; rintro e w2 ⟨v2, rfl, k1, k2⟩; obtain ⟨A2, n2, c2, rfl, hn2⟩ := k1.slice; have HN2 := Lib.hid hn2; clear hn2)
        have hR2 : RR (w2.alloc (.cells #[.slice A2 n2 c2, .int .i64 0, .int .i64 0] 119)) w.heap.size w2.heap.size (.slice A2 n2 c2) (bitsOf bs) 0 0 := ⟨Box.new _ _ _, k1.alloc _, by omega, by omega⟩
        have HRd := Lib.hid (rread_any _ _ _ _ 0 _ hR2)
        rw [hb0, HP.out] at HRd
        refine HRd.out.mono ?_
        rintro e w3 ⟨m1, rfl, a, m2, m3⟩
        clear m3
        have c0 := m2.box.cell 0
        simp only [List.getElem?_toArray, List.getElem?_cons_zero] at c0
        have hn2 := HN2.out
        rw [List.length_map] at hn2
        have hd2 : decide ((n2 : Int) < (N : Int)) = true := by rw [decide_eq_true_eq]; omega
        have hd3 : decide (n2 < N) = true := by rw [decide_eq_true_eq]; omega
        clear hn2
        go_wp2_with fail
        go_ret2
        exact ⟨(k2.alloc _).thenR m1 k2.size, rfl⟩
      · rw [if_neg (by omega), Int.toNat_natCast]
        go_enter Tryd.func28, Tryd.ntmps28
        go_wp2_with (go_at_call 75; refine HU.out.mono ?_; rintro e w2 ⟨v2, rfl, k1, k2⟩; obtain ⟨A2, n2, c2, rfl, hn2⟩ := k1.slice; have HN2 := Lib.hid hn2; clear hn2)
        have hR2 : RR (w2.alloc (.cells #[.slice A2 n2 c2, .int .i64 0, .int .i64 0] 119)) w.heap.size w2.heap.size (.slice A2 n2 c2) (bitsOf bs) 0 0 := ⟨Box.new _ _ _, k1.alloc _, by omega, by omega⟩
        have HRd := Lib.hid (rread_any _ _ _ _ 0 _ hR2)
        rw [hb0, HP.out] at HRd
        refine HRd.out.mono ?_
        rintro e w3 ⟨m1, rfl, a, m2, m3⟩
        have M3 := Lib.hid m3
        clear m3
        have c0 := m2.box.cell 0
        simp only [List.getElem?_toArray, List.getElem?_cons_zero] at c0
        have hn2 := HN2.out
        rw [List.length_map] at hn2
        have hd2 : decide ((n2 : Int) < (N : Int)) = false := by rw [decide_eq_false_iff_not]; omega
        have hd3 : decide (n2 < N) = false := by rw [decide_eq_false_iff_not]; omega
        have hG3 := (k2.alloc (.cells #[.slice A2 n2 c2, .int .i64 0, .int .i64 0] 119)).thenR m1 k2.size
        have hg : w.heap.size ≤ w2.heap.size := k2.size
        clear hn2 k1 k2 m1 hR2 HRd HU
        generalize w2.heap.size = g at *
        go_wp2_with fail
        go_loopw [7, 8, 9, 10] (fun x la st i wr => ∃ (j m : Nat) (A : Option Addr) (c a : Nat) (l b : Int) (ac : List Int), j ≤ N ∧ i = .int .i64 j ∧ x = .slice A m c ∧ la = .int .i64 l ∧ st = .int .i64 (wrap64 (l - b)) ∧ ac.length = j ∧ RR wr w.heap.size g (.slice A2 n2 c2) (bitsOf bs) a 0 ∧ Mine wr w.heap.size 3 (.slice A m c) (ac.map vi) ∧ Grew w wr ∧ Rest N t j b l ((bitsOf bs).drop a) ac)
          (fun _ _ _ i _ => N - (intOf i).toNat)
        case atStart => exact ⟨0, 0, none, 0, a, 0, 0, [], by omega, rfl, rfl, rfl, by simp [wrap64], rfl, m2, Mine.nil _ _ _, hG3, by rw [← M3.out]; exact Rest.start _ _⟩
        case round =>
          clear hG3 m2 M3 c0 a hd2 hd3 hdn
          obtain ⟨j, m, A, c, a, la, be, ac, hj, rfl, rfl, rfl, rfl, hacl, hB, hM, hG, hR⟩ := hrel
          have hsz := hG.size
          have HAC := Lib.hid hacl
          have HRS := Lib.hid hR
          clear hacl hR
          by_cases hlt : j < N
          · have HRd := Lib.hid (rread_any g w.heap.size (.slice A2 n2 c2) (bitsOf bs) a wr hB)
            cases hq : parse ((bitsOf bs).drop a) with
            | none =>
              have hfail := HRS.out.fail hlt hq
              have HF := Lib.hid hfail
              rw [hq] at HRd
              clear hq hfail
              go_wp2_with fail
              refine HRd.out.mono ?_
              rintro e w4 ⟨p1, n', rfl⟩
              go_wp2_with fail
              go_ret2
              unfold finRef
              rw [HF.out]
              exact ⟨hG.thenR p1 hg, rfl⟩
            | some q =>
              obtain ⟨d, t2⟩ := q
              have hst := HRS.out.step hlt hq
              have HST := Lib.hid hst
              rw [hq] at HRd
              clear hq hst
              have hbl : (ac.map vi).length < 1099511627776 := by rw [List.length_map, HAC.out]; omega
              have HSB := Lib.hid (step_back d la be)
              have HSN := Lib.hid (step_next d la be)
              go_wp2_with fail
              refine HRd.out.mono ?_
              rintro e w4 ⟨p1, rfl, a2, p2, p3⟩
              have hM4 := hM.keepR p1 hB.box (by decide)
              have hG4 := hG.thenR p1 hg
              have hsz4 := hG4.size
              have P3 := Lib.hid p3
              clear p3 HRd
              go_wp2_with (at_builtin; refine app_one slInt rfl (.tmp 55) (.tmp 57) rfl rfl (hM4.alloc _) w4.heap.size 1 (.int .i64 (wrap64 (la + wrap64 (wrap64 (la - be) + d)))) rfl (Nat.le_refl _) (by simp) (by simp) rfl hbl (by simp; omega) ?k)
              case k =>
              intro r cap w5 hM5 hk5 hr5 hbr5 hlr5
              have hG5 : Grew w w5 := (hG4.alloc _).app (hM4.alloc _) hk5
              have hB5 : RR w5 w.heap.size g (.slice A2 n2 c2) (bitsOf bs) a2 0 := (p2.alloc _).aside (hM4.alloc _) (by decide) (by decide) hk5
              rw [HSB.out] at hM5
              have HM5 := Lib.hid hM5
              clear hM5 hM4 hM hk5 hbl
              go_wp2_with fail
              rw [HSB.out, HSN.out]
              go_roundw
              case rel =>
                refine ⟨j + 1, _, _, _, a2, wrap64 (d + 2 * la - be), la, ac ++ [wrap64 (d + 2 * la - be)], by omega, by go_num, rfl, rfl, rfl, by rw [List.length_append, HAC.out]; rfl, hB5, ?_, hG5, by rw [← P3.out]; exact HST.out⟩
                rw [List.map_append]; exact HM5.out
              case measure => simp [intOf]; omega
          · obtain rfl : j = N := by omega
            have hdone := HRS.out.done
            obtain ⟨_, _, _, hacI⟩ := reads_some hdone
            have HDN := Lib.hid hdone
            have HI := Lib.hid (rints_any _ ac wr hM.rd hacI (by rw [HAC.out]; omega))
            have hil : (pack (ints ac)).length ≤ 1099511627776 := by
              rw [pack_length]
              have h1 := code_len_le ac.length
              have h2 := codes_len (seconds 0 0 ac)
              rw [seconds_length, HAC.out] at h2
              unfold ints
              rw [List.length_append]; omega
            have HIL := Lib.hid hil
            clear hdone hacI hil
            go_wp2_with fail
            refine HI.out.mono ?_
            rintro e w4 ⟨v4, rfl, p1, p2⟩
            have hG4 := hG.trans p2
            have HSm := Lib.hid (sameBytes_any v4 v (pack (ints ac)) bs w4 p1.rd ((h.grew (Nat.le_refl _) hG4).more hG4.size) HIL.out (by omega))
            by_cases hsame : pack (ints ac) = bs
            · have hds : decide (pack (ints ac) = bs) = true := by rw [decide_eq_true_eq]; exact hsame
              rw [hds] at HSm
              have HSE := Lib.hid hsame
              clear hsame hds
              go_wp2_with fail
              refine HSm.out.mono ?_
              rintro e w5 ⟨rfl, n5, rfl⟩
              go_wp2_with fail
              go_ret2
              unfold finRef
              rw [HDN.out]
              simp only
              rw [if_pos HSE.out]
              exact ⟨hG4.drewN _, _, rfl, hM.grew (p2.drewN _)⟩
            · have hds : decide (pack (ints ac) = bs) = false := by rw [decide_eq_false_iff_not]; exact hsame
              rw [hds] at HSm
              have HSE := Lib.hid hsame
              clear hsame hds
              go_wp2_with fail
              refine HSm.out.mono ?_
              rintro e w5 ⟨rfl, n5, rfl⟩
              go_wp2_with fail
              go_ret2
              unfold finRef
              rw [HDN.out]
              simp only
              rw [if_neg HSE.out]
              exact ⟨hG4.drewN _, rfl⟩
end Go.Proofs.YtjiiiimhegkklaaDoor
