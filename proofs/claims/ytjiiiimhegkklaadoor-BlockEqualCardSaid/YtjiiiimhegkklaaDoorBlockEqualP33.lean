/- The law BlockEqual, walked: it returns true and leaves what was there. -/
import Derived.Test.YtjiiiimhegkklaaDoorBlockEqualP32
namespace Go.Proofs.YtjiiiimhegkklaaDoor
open Go.RowKit Pl

theorem MineC.oneNew {w : World} {base g : Nat} {d : Clm} (hb : Box w g 24 (cells4 d).toArray) (hg : base ≤ g) : MineC w base (.slice (some ⟨g, 0, none⟩) 1 1) [d] :=
  ⟨by simp [flat_one, cells4], .inr ⟨g, 1, _, rfl, hg, hb, Nat.le_refl _, by unfold maxLen; omega, rfl, by rw [flat_one]; rfl⟩⟩
theorem RdC.none_left {w : World} {B : Nat} {A : Option Addr} {n c : Nat} {cs : List Clm} (h : RdC w B (.slice A n c) cs) (hc : c = 1) (A' : Option Addr) : RdC w B (.slice A' (n - 1) (c - 1)) (cs.drop 1) := by
  obtain ⟨A0, c', hv, hc', _⟩ := h
  injection hv with e1 e2 e3
  subst e3
  have hl : cs.length ≤ 1 := by omega
  have hd : cs.drop 1 = [] := List.drop_eq_nil_of_le hl
  rw [hd]
  have hz : n - 1 = 0 := by omega
  rw [hz]
  exact ⟨A', c - 1, rfl, by simp, fun h => by simp at h⟩
/- a number stored into a cell -/
theorem st_int {ops : Array Oper} {rest : List Oper} {o : Oper} {a : Act} {w : World} {Q : Exit → Act → World → Prop} (x y : Operand) (g k : Nat) (n : Int) (u : Value) (hgd : o.guard = none) (ho : o.op = .store 3 x y)
    (hx : a.eval x = .pointer (some ⟨g, k, none⟩)) (hy : a.eval y = .int .i64 n) (hc : w.cell? ⟨g, k, none⟩ = some u) (hf : w.frozen? ⟨g, k, none⟩ = false)
    (h : ∀ w', w' = w.setCell ⟨g, k, none⟩ (.int .i64 n) → wpList Tryd.prog ops Q rest (a.put o.dst undef) w') : wpList Tryd.prog ops Q (o :: rest) a w := by
  refine wpList_plain hgd fun K hK => ?_
  unfold Oper.wp execOp
  simp only [ho, hx, hy]
  go_simp
  exact hK _ _ (h _ rfl)
set_option maxHeartbeats 6400000 in
set_option maxRecDepth 100000 in
theorem blockEqual_walk (n : Int) (v0 : Value) (l : List Int) (at_ to_ : Int) (w : World) (hn : I64 n) (h0 : Rd w w.heap.size v0 (l.map vi)) (hi : ∀ x ∈ l, I64 x) (hl : l.length ≤ 1000000000000000) (ha : I64 at_) (hto : I64 to_) (ht : Tab w w.heap.size) (hp : PTab w w.heap.size) :
    Calls Tryd.prog 5 #[.int .i64 n, v0, .int .i64 at_, .int .i64 to_] w fun e w' => e = .returned (.bool true) ∧ Grew w w' := by
  have HM := Lib.hid (made_any n v0 l _ hn h0 hi hl)
  have HT := Lib.hid ht
  have HP := Lib.hid hp
  obtain ⟨A0, n0, c0, rfl, -, -⟩ := h0.form
  clear h0 hi ht hp
  generalize madeX n = X at *
  go_enter Tryd.func5, Tryd.ntmps5
  go_wp2_with fail
  refine HM.out.mono ?_
  rintro e w2 ⟨v2, cs, rfl, q1, q2, q3, hG2⟩
  obtain ⟨A2, m2, c2, rfl, hm2, -⟩ := q1.slice
  have HM2 := Lib.hid hm2
  have hm9 : m2 ≤ 9 := by omega
  have HB := Lib.hid (fun w' => bent_any X at_ to_ A2 m2 c2 w' ha)
  have HOf := Lib.hid (fun w' => of_any X A2 m2 c2 w')
  unfold vbl at HB HOf ⊢
  have hO2 : ∀ i, (Value.slice A2 m2 c2).ownBlock = some i → i < w2.heap.size := fun i e => (q1.lt i e).2
  have HO2 := Lib.hid hO2
  have hs2 := hG2.size
  clear hO2 HM hm2
  go_wp2_with (first | (refine st5 27 infoR (.tmp 9) (.tmp 24) w2.heap.size X zc (.slice A2 m2 c2) (.slice none 0 0) 27 rfl rfl rfl rfl rfl (Box.new w2 27 (cells5 zc (.slice none 0 0)).toArray) ?_; intro w3 hb3 hk3) | (refine ld5v 27 infoR Tryd.underlying27 rfl (.tmp 9) w2.heap.size X (.slice A2 m2 c2) 27 rfl rfl rfl hb3 ?_))
  have m3 := (q1.alloc (.cells (cells5 zc (.slice none 0 0)).toArray 27)).keep hk3 (fun i e e2 => by have := HO2.out i e; omega)
  have hG3 : Grew w w3 := Keeps.then_ (hG2.alloc _) hk3 (fun i hi e => by omega)
  clear hk3 hG2 q1
  refine (HOf.out w3).mono ?_
  rintro e w4 ⟨rfl, k4⟩
  have hG4 := hG3.trans k4
  have m4 := m3.grew k4
  have hb9 := hb3.grew k4
  have hlt4 := hb9.lt
  clear hG3 m3 hb3 HOf k4
  have hb9a := hb9.alloc (.cells (cells5 zc (.slice none 0 0)).toArray 35)
  go_wp2_with (first | (refine st5 35 infoB (.tmp 10) (.tmp 26) w4.heap.size X zc (.slice A2 m2 c2) (.slice none 0 0) 35 rfl rfl rfl rfl rfl (Box.new w4 35 (cells5 zc (.slice none 0 0)).toArray) ?_; intro w5 hb5 hk5; have hb9b := hb9a.keep hk5 (by omega)) | (refine ld5v 27 infoR Tryd.underlying27 rfl (.tmp 9) w2.heap.size X (.slice A2 m2 c2) 27 rfl rfl rfl hb9b ?_))
  have m5 := (m4.alloc (.cells (cells5 zc (.slice none 0 0)).toArray 35)).keep hk5 (fun i e e2 => by have := HO2.out i e; omega)
  have hG5 : Grew w w5 := Keeps.then_ (hG4.alloc _) hk5 (fun i hi e => by have := hG4.size; omega)
  clear hk5 hG4 m4 hb9 hb9a
  refine (HB.out w5).mono ?_
  rintro e w6 ⟨rfl, k6⟩
  have hG6 := hG5.trans k6
  have m6 := m5.grew k6
  have hb96 := hb9b.grew k6
  have hb106 := hb5.grew k6
  have hlt6 := hb106.lt
  clear hG5 m5 hb9b hb5 HB k6
  generalize setC X (arnd at_ 4) to_ = Y at *
  obtain ⟨D, hD⟩ : ∃ D, D = decide (X = Y ∧ cs = cs) := ⟨_, rfl⟩
  have HSm := Lib.hid (fun w' (m' : MineC w' w.heap.size (.slice A2 m2 c2) cs) => rbsame_any X Y _ _ cs cs w' m'.rd m'.rd (by omega) (by omega))
  have HEq := Lib.hid (fun w' (m' : MineC w' w.heap.size (.slice A2 m2 c2) cs) => bequal_any X Y _ _ cs cs w' m'.rd m'.rd (by omega) (by omega))
  have HEx := Lib.hid (fun w' (m' : MineC w' w.heap.size (.slice A2 m2 c2) cs) => bequal_any X X _ _ cs cs w' m'.rd m'.rd (by omega) (by omega))
  rw [← hD] at HSm HEq
  rw [show decide (X = X ∧ cs = cs) = true by simp] at HEx
  clear hD
  have HOY := Lib.hid (fun w' => of_any Y A2 m2 c2 w')
  unfold vbl at HSm HEq HEx HOY
  have hb96a := hb96.alloc (.cells (cells5 zc (.slice none 0 0)).toArray 27)
  go_wp2_with (first | (refine st5 27 infoR (.tmp 11) (.tmp 30) w6.heap.size Y zc (.slice A2 m2 c2) (.slice none 0 0) 27 rfl rfl rfl rfl rfl (Box.new w6 27 (cells5 zc (.slice none 0 0)).toArray) ?_; intro w7 hb7 hk7; have hb97 := hb96a.keep hk7 (by omega)) | (refine ld5v 27 infoR Tryd.underlying27 rfl (.tmp 9) w2.heap.size X (.slice A2 m2 c2) 27 rfl rfl rfl hb97 ?_) | (refine ld5v 27 infoR Tryd.underlying27 rfl (.tmp 11) w6.heap.size Y (.slice A2 m2 c2) 27 rfl rfl rfl hb7 ?_))
  have m7 := (m6.alloc (.cells (cells5 zc (.slice none 0 0)).toArray 27)).keep hk7 (fun i e e2 => by have := HO2.out i e; omega)
  have hG7 : Grew w w7 := Keeps.then_ (hG6.alloc _) hk7 (fun i hi e => by have := hG6.size; omega)
  have hb107 := (hb106.alloc (.cells (cells5 zc (.slice none 0 0)).toArray 27)).keep hk7 (by omega)
  clear hk7 hG6 m6 hb96 hb96a hb106 hb97
  refine (HSm.out w7 (m7.base_le (Nat.le_refl _))).mono ?_
  rintro e w8 ⟨rfl, k8⟩
  have hG8 := hG7.trans k8
  have m8 := m7.grew k8
  have hb8 := hb7.grew k8
  have hb108 := hb107.grew k8
  clear hG7 m7 hb7 hb107 HSm k8
  have hS : ∀ w', Grew w8 w' → w'.cell? ⟨w4.heap.size, 0, none⟩ = some (.int .i64 X.1) ∧ w'.cell? ⟨w4.heap.size, 1, none⟩ = some (.int .i64 X.2.1) ∧ w'.cell? ⟨w4.heap.size, 2, none⟩ = some (.int .i64 X.2.2.1) ∧ w'.cell? ⟨w4.heap.size, 3, none⟩ = some (.int .i64 X.2.2.2) ∧ w'.cell? ⟨w4.heap.size, 4, none⟩ = some (.slice A2 m2 c2) ∧ w'.cell? ⟨w6.heap.size, 0, none⟩ = some (.int .i64 Y.1) ∧ w'.cell? ⟨w6.heap.size, 1, none⟩ = some (.int .i64 Y.2.1) ∧ w'.cell? ⟨w6.heap.size, 2, none⟩ = some (.int .i64 Y.2.2.1) ∧ w'.cell? ⟨w6.heap.size, 3, none⟩ = some (.int .i64 Y.2.2.2) ∧ w'.cell? ⟨w6.heap.size, 4, none⟩ = some (.slice A2 m2 c2) := fun w' g => by
    obtain ⟨a0, a1, a2, a3, a4⟩ := (hb108.grew g).five
    obtain ⟨b0, b1, b2, b3, b4⟩ := (hb8.grew g).five
    exact ⟨a0, a1, a2, a3, a4, b0, b1, b2, b3, b4⟩
  have HS := Lib.hid hS
  have HE1 := Lib.hid (fun w' (g : Grew w8 w') => HEx.out w' ((m8.grew g).base_le (Nat.le_refl _)))
  have HE2 := Lib.hid (fun w' (g : Grew w8 w') => HEq.out w' ((m8.grew g).base_le (Nat.le_refl _)))
  have gz : Grew w8 w8.drew := Keeps.drew (Grew.refl w8)
  have cZ := hS w8.drew gz
  have dD : (D != D) = false := by cases D <;> rfl
  have M8 := Lib.hid m8
  have HB8 := Lib.hid hb108
  have HG8 := Lib.hid hG8
  have HQ2 := Lib.hid q2
  clear hS HEq m8 hb8 hb108 hG8 q2
  go_upto_region 5 with fail
  go_cut [45] (fun s wx => s = .bool false ∧ Grew w8 wx)
  case first =>
    go_region_held3 (fun w' => w'.cell? ⟨w4.heap.size, 0, none⟩ = some (.int .i64 X.1) ∧ w'.cell? ⟨w4.heap.size, 1, none⟩ = some (.int .i64 X.2.1) ∧ w'.cell? ⟨w4.heap.size, 2, none⟩ = some (.int .i64 X.2.2.1) ∧ w'.cell? ⟨w4.heap.size, 3, none⟩ = some (.int .i64 X.2.2.2) ∧ w'.cell? ⟨w4.heap.size, 4, none⟩ = some (.slice A2 m2 c2) ∧ w'.cell? ⟨w6.heap.size, 0, none⟩ = some (.int .i64 Y.1) ∧ w'.cell? ⟨w6.heap.size, 1, none⟩ = some (.int .i64 Y.2.1) ∧ w'.cell? ⟨w6.heap.size, 2, none⟩ = some (.int .i64 Y.2.2.1) ∧ w'.cell? ⟨w6.heap.size, 3, none⟩ = some (.int .i64 Y.2.2.2) ∧ w'.cell? ⟨w6.heap.size, 4, none⟩ = some (.slice A2 m2 c2)) (first | assumption | exact HS.out _ (by assumption) | exact HS.out _ (Keeps.drew (Grew.refl _)))
      (first | (go_at_call 32; (with_reducible refine (HE1.out w8.drew gz).mono ?_); rintro e wa ⟨rfl, ga⟩; have gA := gz.trans ga; have cA := HS.out wa gA) | (go_at_call 18; (with_reducible refine (HOY.out wa).mono ?_); rintro e wb ⟨rfl, gb⟩; have gB := gA.trans gb; have cB := HS.out wb gB) | (go_at_call 32; (with_reducible refine (HE2.out wb gB).mono ?_); rintro e wd ⟨rfl, gd⟩; have gD := gB.trans gd; have cD := HS.out wd gD))
    all_goals (go_wp2_with fail; go_meet; exact ⟨rfl, gD⟩)
  case rest =>
    obtain ⟨rfl, gc⟩ := hcut
    have b10 := HB8.out.grew gc
    have mc := M8.out.grew gc
    have hGc := HG8.out.trans gc
    have c4 := b10.five.2.2.2.2
    have hw4 := b10.lt
    have hszc := hGc.size
    clear HB8 M8 HG8 HE1 HE2 HS gz cZ dD HEx HOY
    by_cases hmz : m2 = 0
    · have hcs : cs = [] := List.eq_nil_of_length_eq_zero (by rw [← HM2.out]; exact hmz)
      have t0 : ((m2 : Int) == 0) = true := by simp [hmz]
      have HCS := Lib.hid hcs
      clear hcs hmz
      go_wp2_with (first | (refine ld5v 35 infoB Tryd.underlying35 rfl (.tmp 10) w4.heap.size X (.slice A2 m2 c2) 35 rfl rfl rfl b10 ?_) | (refine st5 35 infoB (.tmp 14) (.tmp 51) wc.heap.size X zc (.slice A2 m2 c2) (.slice none 0 0) 35 rfl rfl rfl rfl rfl (Box.new wc 35 (cells5 zc (.slice none 0 0)).toArray) ?_; intro w9 hb9 hk9) | (refine stv5 (.tmp 54) (.tmp 53) wc.heap.size (some ⟨w9.heap.size, 0, none⟩) 1 1 X (.slice A2 m2 c2) 35 rfl rfl rfl rfl (hb9.alloc _) ?_; intro W p1 kW; have b10W := (((b10.alloc (.cells (cells5 zc (.slice none 0 0)).toArray 35)).keep hk9 (by omega)).alloc (.cells (cells4 zc).toArray 24)).keep kW (by omega)) | (refine ld5v 35 infoB Tryd.underlying35 rfl (.tmp 10) w4.heap.size X (.slice A2 m2 c2) 35 rfl rfl rfl b10W ?_) | (refine ld5v 35 infoB Tryd.underlying35 rfl (.tmp 14) wc.heap.size X (.slice (some ⟨w9.heap.size, 0, none⟩) 1 1) 35 rfl rfl rfl p1 ?_))
      have hG9 : Grew w w9 := Keeps.then_ (hGc.alloc _) hk9 (fun i hi e => by omega)
      have m9 := (mc.alloc (.cells (cells5 zc (.slice none 0 0)).toArray 35)).keep hk9 (fun i e e2 => by have := (mc.lt i e).2; omega)
      have hlt9 := hb9.lt
      have hGW : Grew w W := Keeps.then_ (hG9.alloc _) kW (fun i hi e => by omega)
      have mW := (m9.alloc (.cells (cells4 zc).toArray 24)).keep kW (fun i e e2 => m9.ne_box e hb9 (by decide) e2)
      have oW := (MineC.oneNew (d := zc) (Box.new w9 24 (cells4 zc).toArray) (Nat.le_refl _)).keep kW (fun i e e2 => by have := (show w9.heap.size = i by simpa [Value.ownBlock] using e); omega)
      have hE1 := fun w' (x1 : RdC w' w'.heap.size (.slice A2 m2 c2) cs) (x2 : RdC w' w'.heap.size (.slice (some ⟨w9.heap.size, 0, none⟩) 1 1) [zc]) => bequal_any X X _ _ cs [zc] w' x1 x2 (by omega) (by simp)
      have hE2 := fun w' (x1 : RdC w' w'.heap.size (.slice A2 m2 c2) cs) (x2 : RdC w' w'.heap.size (.slice (some ⟨w9.heap.size, 0, none⟩) 1 1) [zc]) => bequal_any X X _ _ [zc] cs w' x2 x1 (by simp) (by omega)
      rw [show decide (X = X ∧ cs = [zc]) = false by rw [HCS.out]; simp] at hE1
      rw [show decide (X = X ∧ [zc] = cs) = false by rw [HCS.out]; simp] at hE2
      unfold vbl at hE1 hE2
      have HE1 := Lib.hid hE1
      have HE2 := Lib.hid hE2
      have HQ1 := Lib.hid mW.rd
      have HQ2w := Lib.hid oW.rd
      clear hE1 hE2 mW oW m9 hG9 kW hk9 hb9 b10 c4 mc hGc
      refine (HE1.out W HQ1.out HQ2w.out).mono ?_
      rintro e wa ⟨rfl, ga⟩
      have r1a := (HQ1.out.grew (Nat.le_refl _) ga).more ga.size
      have r2a := (HQ2w.out.grew (Nat.le_refl _) ga).more ga.size
      have b10a := b10W.grew ga
      have p1a := p1.grew ga
      have hGa := hGW.trans ga
      obtain ⟨u0, u1, u2, u3, u4⟩ := b10a.five
      obtain ⟨v0', v1, v2, v3, v4⟩ := p1a.five
      have HR1a := Lib.hid r1a
      have HR2a := Lib.hid r2a
      clear b10W p1 hGW HQ1 HQ2w HE1 r1a r2a
      go_wp2_with fail
      refine (HE2.out wa HR1a.out HR2a.out).mono ?_
      rintro e wb ⟨rfl, gb⟩
      have hGb := hGa.trans gb
      have HL := Lib.hid (lives18_any wb (HT.out.on hGb) (HP.out.on hGb))
      clear u0 u1 u2 u3 u4 v0' v1 v2 v3 v4
      go_wp2_with fail
      refine HL.out.mono ?_
      rintro e wd ⟨rfl, gd⟩
      go_wp2_with fail
      go_ret
      exact ⟨rfl, hGb.trans gd⟩
    · have hcl : 0 < cs.length := by rw [← HM2.out]; omega
      have t0 : ((m2 : Int) == 0) = false := by simp [hmz]
      obtain ⟨g2, rfl⟩ : ∃ g2, A2 = some ⟨g2, 0, none⟩ := by
        rcases mc.form with ⟨_, h⟩ | ⟨g, cap, cur, hv, _⟩
        · rw [h] at hcl; simp at hcl
        · injection hv with hv; exact ⟨g, hv⟩
      have hc2 : m2 ≤ c2 := by
        obtain ⟨_, _, _, e, e2, e3⟩ := mc.slice
        injection e with _ e4 e5
        omega
      have HCL := Lib.hid hcl
      clear hcl
      go_upto_region 13 with (first | (refine ld5v 35 infoB Tryd.underlying35 rfl (.tmp 10) w4.heap.size X (.slice (some ⟨g2, 0, none⟩) m2 c2) 35 rfl rfl rfl b10 ?_) | (refine st5 35 infoB (.tmp 15) (.tmp 68) wc.heap.size X zc (.slice (some ⟨g2, 0, none⟩) m2 c2) (.slice none 0 0) 35 rfl rfl rfl rfl rfl (Box.new wc 35 (cells5 zc (.slice none 0 0)).toArray) ?_; intro w9 hb9 hk9; have b109 := (b10.alloc (.cells (cells5 zc (.slice none 0 0)).toArray 35)).keep hk9 (by omega); have c49 := b109.five.2.2.2.2))
      dsimp only [Act.put]
      have hG9 : Grew w w9 := Keeps.then_ (hGc.alloc _) hk9 (fun i hi e => by omega)
      have m9 := (mc.alloc (.cells (cells5 zc (.slice none 0 0)).toArray 35)).keep hk9 (fun i e e2 => by have := (mc.lt i e).2; omega)
      have hlt9 := hb9.lt
      clear hk9 b10 c4 mc hGc gc
      generalize wc.heap.size = g15 at *
      go_cut [15] (fun s wx => ∃ A', s = .pointer (some ⟨g15, 0, none⟩) ∧ Box wx g15 35 (cells5 X (.slice A' (m2 - 1) (c2 - 1))).toArray ∧ Keeps (fun i => i = g15) w9 wx ∧ RdC wx wx.heap.size (.slice A' (m2 - 1) (c2 - 1)) (cs.drop 1))
      case first =>
        by_cases hc1 : c2 = 1
        · have hne : ∀ i, (Value.slice (some ⟨g2, 0, none⟩) m2 c2).ownBlock = some i → i ≠ g15 := fun i e e2 => m9.ne_box e hb9 (by decide) e2
          go_wp2_with (refine stv5 (.tmp 72) (.tmp 71) g15 (some ⟨g2, 0, none⟩) (m2 - 1) (c2 - 1) X (.slice (some ⟨g2, 0, none⟩) m2 c2) 35 rfl rfl rfl (by rw [hc1]; rfl) hb9 ?_; intro wd hbd hkd)
          go_meet
          exact ⟨_, rfl, hbd, hkd, (m9.keep hkd hne).rd.none_left hc1 _⟩
        · have hne : ∀ i, (Value.slice (some ⟨g2, 0, none⟩) m2 c2).ownBlock = some i → i ≠ g15 := fun i e e2 => m9.ne_box e hb9 (by decide) e2
          go_wp2_with (refine stv5 (.tmp 72) (.tmp 71) g15 (some ⟨g2, 4, none⟩) (m2 - 1) (c2 - 1) X (.slice (some ⟨g2, 0, none⟩) m2 c2) 35 rfl rfl rfl rfl hb9 ?_; intro wd hbd hkd)
          go_meet
          exact ⟨_, rfl, hbd, hkd, (m9.keep hkd hne).rd.tail HCL.out⟩
      case rest =>
        obtain ⟨A', rfl, hb15, hkx, hrt⟩ := hcut
        have hGx : Grew w wc := Keeps.then_ hG9 hkx (fun i hi e => by omega)
        have hsx := hkx.size
        have mx := m9.keep hkx (fun i e e2 => m9.ne_box e hb9 (by decide) e2)
        have b10x := b109.keep hkx (by omega)
        have HRT := Lib.hid hrt
        have ne2 : ∀ i, (Value.slice (some ⟨g2, 0, none⟩) m2 c2).ownBlock = some i → i ≠ g15 := fun i e e2 => m9.ne_box e hb9 (by decide) e2
        have g2ne : g2 ≠ g15 := ne2 g2 rfl
        have hg2 : g2 < w9.heap.size := (m9.lt g2 rfl).2
        have hg2w : w.heap.size ≤ g2 := (m9.lt g2 rfl).1
        have hlx := b10x.lt
        have hl15 := hb15.lt
        clear hkx hrt m9 hb9 b109 c49 hG9 ne2
        go_wp2_with (first | (refine ld5v 35 infoB Tryd.underlying35 rfl (.tmp 10) w4.heap.size X (.slice (some ⟨g2, 0, none⟩) m2 c2) 35 rfl rfl rfl b10x ?_) | (refine st5 35 infoB (.tmp 16) (.tmp 73) wc.heap.size X zc (.slice (some ⟨g2, 0, none⟩) m2 c2) (.slice none 0 0) 35 rfl rfl rfl rfl rfl (Box.new wc 35 (cells5 zc (.slice none 0 0)).toArray) ?_; intro we hbe hke; have b10e := (b10x.alloc (.cells (cells5 zc (.slice none 0 0)).toArray 35)).keep hke (by omega); have b15e := (hb15.alloc (.cells (cells5 zc (.slice none 0 0)).toArray 35)).keep hke (by omega); have me := (mx.alloc (.cells (cells5 zc (.slice none 0 0)).toArray 35)).keep hke (fun i e e2 => (by have := (mx.lt i e).2; omega)); have c4e := (b10e.alloc (.cells #[] 24)).five.2.2.2.2; have hse := hke.size; have hse2 := World.size_alloc wc (.cells (cells5 zc (.slice none 0 0)).toArray 35)) | (at_builtin; refine app_anyG rfl (.tmp 74) (.tmp 76) rfl rfl (MineC.empty (base := we.heap.size) (Box.new we 24 #[]) (Nat.le_refl _)) rfl (me.alloc _).rd.rdG (by simp; omega) (by simp) ?_; intro Az mz cz wf hmzl hMz hkz hrz; change Keeps (fun i => (Value.slice (some ⟨we.heap.size, 0, none⟩) 0 0).ownBlock = some i) _ wf at hkz; rw [List.nil_append] at hMz; have hbf := (hbe.alloc (.cells #[] 24)).keep hkz (own_ne (by have := hbe.lt; omega))) | (refine stv5 (.tmp 78) (.tmp 77) wc.heap.size Az mz cz X (.slice (some ⟨g2, 0, none⟩) m2 c2) 35 rfl rfl rfl rfl hbf ?_; intro wh hbh hkh))
        have hltw := hbe.lt
        have hGe : Grew w we := Keeps.then_ (hGx.alloc _) hke (fun i hi e => by omega)
        have ezb : (Value.slice (some ⟨we.heap.size, 0, none⟩) 0 0).ownBlock = some we.heap.size := rfl
        have hGf : Grew w wf := Keeps.then_ (hGe.alloc _) hkz (fun i hi e => by rw [ezb] at e; have := Option.some.inj e; have := hGe.size; omega)
        have hGh : Grew w wh := Keeps.then_ hGf hkh (fun i hi e => by omega)
        have hsz1 := World.size_alloc we (.cells #[] 24)
        have k1 : ∀ i, i < we.heap.size → ¬ (Value.slice (some ⟨we.heap.size, 0, none⟩) 0 0).ownBlock = some i := fun i hi e => by rw [ezb] at e; have := Option.some.inj e; omega
        have mh := (((me.alloc (.cells #[] 24)).keep hkz (fun i e => k1 i (me.lt i e).2)).keep hkh (fun i e e2 => by have := (mx.lt i e).2; omega))
        have b10h := ((b10e.alloc (.cells #[] 24)).keep hkz (k1 _ b10e.lt)).keep hkh (by omega)
        have b15h := ((b15e.alloc (.cells #[] 24)).keep hkz (k1 _ b15e.lt)).keep hkh (by omega)
        have hO : ∀ i, (Value.slice Az mz cz).ownBlock = some i → we.heap.size ≤ i := fun i e => (hMz.lt i e).1
        have mz' := hMz.keep hkh (fun i e e2 => by have := hO i e; omega)
        have hsf := hkz.size
        have hsh := hkh.size
        have hrth : RdC wh wc.heap.size (.slice A' (m2 - 1) (c2 - 1)) (cs.drop 1) := by
          have r1 := (HRT.out.grew (Nat.le_refl _) ((Grew.refl wc).alloc (.cells (cells5 zc (.slice none 0 0)).toArray 35))).keep (by omega) hke (fun i hi e => by omega)
          have r2 := ((r1.grew (by omega) ((Grew.refl we).alloc (.cells #[] 24))).keep (by omega) hkz (fun i hi => k1 i (by omega))).keep (by omega) hkh (fun i hi e => by omega)
          exact r2
        obtain ⟨gz, rfl⟩ : ∃ gz, Az = some ⟨gz, 0, none⟩ := by
          rcases mz'.form with ⟨_, h⟩ | ⟨g, cap, cur, hv, _⟩
          · have := HCL.out; rw [h] at this; simp at this
          · injection hv with hv; exact ⟨g, hv⟩
        obtain rfl : mz = m2 := by rw [← hmzl, HM2.out]; simp
        have hgz : we.heap.size ≤ gz := hO gz rfl
        have hO' : ∀ i, (Value.slice (some ⟨g2, 0, none⟩) mz c2).ownBlock = some i → i < we.heap.size := fun i e => (me.lt i e).2
        have HAr := Lib.hid (still_around to_ mz wh hto (by omega) (by omega))
        have hk := arnd_lt to_ mz (by omega)
        generalize arnd to_ mz = k at *
        have hkc : k < cs.length := by rw [← HM2.out]; exact hk
        have hlt5 := b15h.lt
        have hlt10 := b10h.lt
        have hlt10e := b10e.lt
        have hlt15e := b15e.lt
        clear hkz hrz hMz hke hkh hbf hbe b10e b15e me mx b10x hb15 hGx hGe hGf c4e k1 hmzl hO HRT
        go_wp2_with fail
        refine HAr.out.mono ?_
        rintro e w' ⟨rfl, hw'⟩
        rw [hw']; clear hw' w' HAr
        obtain ⟨_, _, eb, hgzl, x0, x1, x2, x3⟩ := mz'.rd.four hkc
        injection eb with eb
        injection eb with eb1 eb2
        subst eb1 eb2
        have x3' : wh.cell? ⟨gz, k * 4 + 3, none⟩ = some (.int .i64 (cs.getD k zc).2.2.2) := by simpa using x3
        have f3 : wh.frozen? ⟨gz, k * 4 + 3, none⟩ = false := by
          rcases mz'.form with ⟨h, _⟩ | ⟨g, cap, cur, hv, _, hbox, _⟩
          · cases h
          · injection hv with hv
            injection hv with hv
            injection hv with hv
            subst hv
            exact hbox.frozen _
        have c16 := hbh.five.2.2.2.2
        have i1 : (0 : Int) ≤ (k : Int) := by omega
        have i2 : (k : Int) < (mz : Int) := by omega
        have hxn := xor1_ne (cs.getD k zc).2.2.2
        have HNE := Lib.hid (turnHi_ne hkc hxn)
        clear x0 x1 x2 hxn
        generalize (cs.getD k zc).2.2.2 = hi0 at *
        go_upto_region 17 with fail
        go_still_tail 12, (by kernel_rfl)
        change wpList _ _ _ _ _ wh.drew
        refine st_int (.tmp 93) (.tmp 91) gz (k * 4 + 3) (bits BinOp.xor IntKind.i64 hi0 1) (.int .i64 hi0) rfl rfl rfl rfl x3' f3 ?_
        intro wi hwi
        generalize bits BinOp.xor IntKind.i64 hi0 1 = hi1 at *
        have ki : Keeps (fun i => i = gz) wh wi := by rw [hwi]; exact (Keeps.drew (Keeps.refl (fun i => i = gz) wh)).setCell (p := ⟨gz, k * 4 + 3, none⟩) (.inl rfl) _
        have zi : MineC wi we.heap.size (.slice (some ⟨gz, 0, none⟩) mz cz) (turnHi cs k hi1) := by rw [hwi]; exact MineC.turn (w := wh.drew) mz' hkc hi1
        have mi := mh.keep ki (fun i e e2 => by have := hO' i e; omega)
        have ri := hrth.keep (by omega) ki (fun i hi e => by omega)
        have b10i := b10h.keep ki (by omega)
        have b15i := b15h.keep ki (by omega)
        have b16i := hbh.keep ki (by omega)
        have hGi : Grew w wi := Keeps.then_ hGh ki (fun i hi e => by omega)
        have hsi := ki.size
        have hzl := turnHi_length cs k hi1
        have hEx : encE cs = 0 := by
          unfold encE
          rw [if_neg (by omega), if_pos HQ2.out]
        have HNB := Lib.hid (encB_ne hEx HNE.out)
        clear hwi ki mh hrth b10h b15h hbh hGh mz' x3 x3' f3 c16 hO'
        generalize turnHi cs k hi1 = ds at *
        have HEa := Lib.hid (encode_any _ cs wi mi.rd (by omega) (HT.out.on hGi))
        have c10 := b10i.five.2.2.2.2
        go_wp2_with fail
        refine HEa.out.mono ?_
        rintro e wj hpj
        obtain ⟨va, rfl, p1, p2⟩ := hpj.all
        obtain ⟨Aa, na, ca, rfl, -⟩ := p1.slice
        have hGj := hGi.trans p2
        have hsj := p2.size
        have HEb := Lib.hid (encode_any _ ds wj (zi.grew p2).rd (by omega) (HT.out.on hGj))
        have c16 := (b16i.grew p2).five.2.2.2.2
        have mj := mi.grew p2
        have rj := ri.grew (by omega) p2
        have zj := zi.grew p2
        have b10j := b10i.grew p2
        have b15j := b15i.grew p2
        have b16j := b16i.grew p2
        clear HEa hpj mi ri zi b10i b15i b16i c10 hGi p2
        go_wp2_with fail
        refine HEb.out.mono ?_
        rintro e wk hpk
        obtain ⟨vb1, rfl, s1, s2⟩ := hpk.all
        obtain ⟨Ab, nb, cb, rfl, -⟩ := s1.slice
        have hGk := hGj.trans s2
        have hsk := s2.size
        have b10k := b10j.grew s2
        have b15k := b15j.grew s2
        have b16k := b16j.grew s2
        have hl1 : (cs.drop 1).length ≤ 9 := by rw [List.length_drop]; omega
        have HE1 := Lib.hid (fun w' (g : Grew wk w') => bequal_any X X _ _ cs (cs.drop 1) w' ((mj.grew s2).grew g).rd ((rj.grew (by omega) (s2.trans g)).more (by have := g.size; omega)) (by omega) (by omega))
        have HE2 := Lib.hid (fun w' (g : Grew wk w') => bequal_any X X _ _ (cs.drop 1) cs w' ((rj.grew (by omega) (s2.trans g)).more (by have := g.size; omega)) ((mj.grew s2).grew g).rd (by omega) (by omega))
        have HE3 := Lib.hid (fun w' (g : Grew wk w') => bequal_any X X _ _ cs ds w' ((mj.grew s2).grew g).rd ((zj.grew s2).grew g).rd (by omega) (by omega))
        have hla := encB_len cs
        have hlb := encB_len ds
        have HSb := Lib.hid (fun w' (g : Grew wk w') => sameBytes_any _ _ (encB cs) (encB ds) w' ((p1.grew s2).grew g).rd (s1.grew g).rd (by omega) (by omega))
        rw [show decide (X = X ∧ cs = cs.drop 1) = false by simp only [decide_eq_false_iff_not]; exact fun e => drop1_ne HCL.out e.2] at HE1
        rw [show decide (X = X ∧ cs.drop 1 = cs) = false by simp only [decide_eq_false_iff_not]; exact fun e => drop1_ne HCL.out e.2.symm] at HE2
        rw [show decide (X = X ∧ cs = ds) = false by simp only [decide_eq_false_iff_not]; exact fun e => HNE.out e.2] at HE3
        rw [show decide (encB cs = encB ds) = false by simp only [decide_eq_false_iff_not]; exact HNB.out] at HSb
        unfold vbl at HE1 HE2 HE3
        clear HEb hpk mj rj zj b10j b15j b16j c16 hGj s1 p1 HNB HNE hEx
        go_wp2_with (first | (refine ld5v 35 infoB Tryd.underlying35 rfl (.tmp 10) w4.heap.size X (.slice (some ⟨g2, 0, none⟩) mz c2) 35 rfl rfl rfl b10k ?_) | (refine ld5v 35 infoB Tryd.underlying35 rfl (.tmp 15) g15 X (.slice A' (mz - 1) (c2 - 1)) 35 rfl rfl rfl b15k ?_))
        refine (HE1.out wk (Grew.refl wk)).mono ?_
        rintro e wA ⟨rfl, gA⟩
        have b10A := b10k.grew gA
        have b15A := b15k.grew gA
        obtain ⟨u0, u1, u2, u3, u4⟩ := b10A.five
        obtain ⟨y0, y1, y2, y3, y4⟩ := b15A.five
        clear HE1
        go_wp2_with fail
        refine (HE2.out wA gA).mono ?_
        rintro e wB ⟨rfl, gB⟩
        have gAB := gA.trans gB
        have b10B := b10k.grew gAB
        have b16B := b16k.grew gAB
        clear u0 u1 u2 u3 u4 y0 y1 y2 y3 y4 HE2 b10A b15A
        obtain ⟨u0, u1, u2, u3, u4⟩ := b10B.five
        obtain ⟨y0, y1, y2, y3, y4⟩ := b16B.five
        go_wp2_with fail
        refine (HE3.out wB gAB).mono ?_
        rintro e wC ⟨rfl, gC⟩
        have gAC := gAB.trans gC
        clear u0 u1 u2 u3 u4 y0 y1 y2 y3 y4 HE3 b10B b16B
        go_wp2_with fail
        refine (HSb.out wC gAC).mono ?_
        rintro e wD ⟨rfl, nD, hD⟩
        have gAD : Grew wk wD := by rw [hD]; exact Keeps.drewN gAC nD
        have hGD := hGk.trans gAD
        have HL := Lib.hid (lives18_any wD (HT.out.on hGD) (HP.out.on hGD))
        clear hD HSb
        go_wp2_with fail
        refine HL.out.mono ?_
        rintro e wE ⟨rfl, gE⟩
        go_wp2_with fail
        go_ret
        exact ⟨rfl, hGD.trans gE⟩
end Go.Proofs.YtjiiiimhegkklaaDoor
