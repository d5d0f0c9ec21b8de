/- The reference of chapter 18: Core. The reference of chapter 18: Encode. -/
import Derived.Test.YtjiiiimhegkklaaDoorBlockDetectsP33
import Derived.Test.YtjiiiimhegkklaaDoorBlockDetectsP27
namespace Go.Proofs.YtjiiiimhegkklaaDoor
open Go.RowKit Pl

set_option maxHeartbeats 12800000 in
set_option maxRecDepth 100000 in
theorem rcore_any (x : Clm) (A : Option Addr) (n c : Nat) (v : Value) (cb : List Nat) (w : World) (hx : I64 x.1 ∧ I64 x.2.1 ∧ I64 x.2.2.1 ∧ I64 x.2.2.2) (h : Rd w w.heap.size v (cb.map vb)) (hl : cb.length ≤ 1000000) :
    Calls Tryd.prog 55 #[vbl x (.slice A n c), v] w fun e w' => ∃ v', e = .returned v' ∧ Mine w' w.heap.size 5 v' ((coreB x cb).map vb) ∧ Grew w w' := by
  obtain ⟨s, k, p, co⟩ := x
  obtain ⟨x1, x2, x3, x4⟩ := hx
  have HC := Lib.hid (show coreB (s, k, p, co) cb = vint (zig s) ++ vint (zig k) ++ vint (zig p) ++ vint (zig co) ++ rawB cb by unfold coreB; rfl)
  simp only at x1 x2 x3 x4
  have l1 := vint_len10 (zig_lt x1)
  have l2 := vint_len10 (zig_lt x2)
  have l3 := vint_len10 (zig_lt x3)
  have l4 := vint_len10 (zig_lt x4)
  have hrl : (rawB cb).length ≤ 1000010 := by
    unfold rawB
    rw [List.length_append]
    have := vint_len10 (n := cb.length) (by omega)
    omega
  have H1 := Lib.hid (fun w => rint_any s w x1)
  have H2 := Lib.hid (fun w => rint_any k w x2)
  have H3 := Lib.hid (fun w => rint_any p w x3)
  have H4 := Lib.hid (fun w => rint_any co w x4)
  have H5 := Lib.hid (fun (w' : World) (hg : Grew w w') => rraw_any v cb w' ((h.grew (Nat.le_refl _) hg).more hg.size) hl)
  generalize vint (zig s) = b1 at *
  generalize vint (zig k) = b2 at *
  generalize vint (zig p) = b3 at *
  generalize vint (zig co) = b4 at *
  obtain ⟨A', n', c', rfl, hn, hc⟩ := h.form
  clear h hn x1 x2 x3 x4
  unfold vbl
  simp only
  have hb0 := Box.new w 27 #[.int .i64 s, .int .i64 k, .int .i64 p, .int .i64 co, .slice A n c]
  have hG0 : Grew w (w.alloc (.cells #[.int .i64 s, .int .i64 k, .int .i64 p, .int .i64 co, .slice A n c] 27)) := (Grew.refl w).alloc _
  go_enter Tryd.func55, Tryd.ntmps55
  go_upto_region 1 with fail
  generalize w.alloc (.cells #[.int .i64 s, .int .i64 k, .int .i64 p, .int .i64 co, .slice A n c] 27) = w1 at *
  have c0 : w1.cell? ⟨w.heap.size, 0, none⟩ = some (.int .i64 s) := hb0.cell 0
  go_wp2_with fail
  refine (H1.out _).mono ?_
  rintro e w2 ⟨v2, rfl, m2, g2⟩
  obtain ⟨A2, n2, q2, rfl, -⟩ := m2.slice
  have G2 := hG0.trans g2
  have M2 := m2.base_le (base' := w.heap.size) hG0.size
  have B2 := hb0.grew g2
  clear H1 c0 m2 g2 hb0 hG0
  have c2 : w2.cell? ⟨w.heap.size, 1, none⟩ = some (.int .i64 k) := B2.cell 1
  go_wp2_with fail
  refine (H2.out _).mono ?_
  rintro e z2 ⟨v2, rfl, m2, g2⟩
  obtain ⟨P2, k2, r2, rfl, -⟩ := m2.slice
  have N2 := M2.grew g2
  have G2' := G2.trans g2
  have hs2 := G2'.size
  have D2 := B2.grew g2
  clear H2 c2 M2 B2 g2 G2
  go_wp2_with (at_builtin; refine app_any slU8 rfl (.tmp 9) (.tmp 12) rfl rfl N2 rfl m2.rd (one_vb _) (by simp only [List.length_map, List.length_append]; omega) hs2 ?_; intro A3 n3 q3 w3 hm3 L3 k3' r3'; have G3 := G2'.app N2 k3'; have B3 := D2.keep k3' (fun e => N2.ne_box e D2 (by decide) rfl); clear k3' r3' D2 N2 G2' hs2 m2; have c3 : w3.cell? ⟨w.heap.size, 2, none⟩ = some (.int .i64 p) := B3.cell 2)
  have M3 := L3
  rw [← List.map_append] at M3
  refine (H3.out _).mono ?_
  rintro e z3 ⟨v3, rfl, m3, g3⟩
  obtain ⟨P3, k3, r3, rfl, -⟩ := m3.slice
  have N3 := M3.grew g3
  have G3' := G3.trans g3
  have hs3 := G3'.size
  have D3 := B3.grew g3
  clear H3 c3 M3 B3 g3 G3
  go_wp2_with (at_builtin; refine app_any slU8 rfl (.tmp 14) (.tmp 17) rfl rfl N3 rfl m3.rd (one_vb _) (by simp only [List.length_map, List.length_append]; omega) hs3 ?_; intro A4 n4 q4 w4 hm4 L4 k4' r4'; have G4 := G3'.app N3 k4'; have B4 := D3.keep k4' (fun e => N3.ne_box e D3 (by decide) rfl); clear k4' r4' D3 N3 G3' hs3 m3; have c4 : w4.cell? ⟨w.heap.size, 3, none⟩ = some (.int .i64 co) := B4.cell 3)
  have M4 := L4
  rw [← List.map_append] at M4
  refine (H4.out _).mono ?_
  rintro e z4 ⟨v4, rfl, m4, g4⟩
  obtain ⟨P4, k4, r4, rfl, -⟩ := m4.slice
  have N4 := M4.grew g4
  have G4' := G4.trans g4
  have hs4 := G4'.size
  have D4 := B4.grew g4
  clear H4 c4 M4 B4 g4 G4
  go_wp2_with (at_builtin; refine app_any slU8 rfl (.tmp 19) (.tmp 22) rfl rfl N4 rfl m4.rd (one_vb _) (by simp only [List.length_map, List.length_append]; omega) hs4 ?_; intro A5 n5 q5 w5 hm5 L5 k5' r5'; have G5 := G4'.app N4 k5'; have B5 := D4.keep k5' (fun e => N4.ne_box e D4 (by decide) rfl); clear k5' r5' D4 N4 G4' hs4 m4; have c5 : w5.cell? ⟨w.heap.size, 4, none⟩ = some (.slice A n c) := B5.cell 4)
  have M5 := L5
  rw [← List.map_append] at M5
  try go_wp2_with fail
  refine (H5.out _ G5).mono ?_
  rintro e z5 ⟨v5, rfl, m5, g5⟩
  obtain ⟨P5, k5, r5, rfl, -⟩ := m5.slice
  have N5 := M5.grew g5
  have G5' := G5.trans g5
  have hs5 := G5'.size
  go_wp2_with (at_builtin; refine app_any slU8 rfl (.tmp 24) (.tmp 26) rfl rfl N5 rfl m5.rd (one_vb _) (by simp only [List.length_map, List.length_append]; omega) hs5 ?_; intro A6 n6 q6 w6 hm6 L6 k6' r6')
  go_ret
  exact ⟨_, rfl, by rw [HC.out, List.map_append]; exact L6, G5'.app N5 k6'⟩
end Go.Proofs.YtjiiiimhegkklaaDoor
namespace Go.Proofs.YtjiiiimhegkklaaDoor
open Go.RowKit Pl

theorem coreB_len (x : Clm) (cb : List Nat) (hx : I64 x.1 ∧ I64 x.2.1 ∧ I64 x.2.2.1 ∧ I64 x.2.2.2) (hl : cb.length ≤ 200000) : (coreB x cb).length ≤ 300000 := by
  obtain ⟨x1, x2, x3, x4⟩ := hx
  have l1 := vint_len10 (zig_lt x1)
  have l2 := vint_len10 (zig_lt x2)
  have l3 := vint_len10 (zig_lt x3)
  have l4 := vint_len10 (zig_lt x4)
  have l5 := vint_len10 (n := cb.length) (by omega)
  unfold coreB rawB
  simp only [List.length_append]
  omega
set_option maxHeartbeats 12800000 in
set_option maxRecDepth 100000 in
theorem rbencode_any (x : Clm) (v : Value) (cs : List Clm) (w : World) (h : RdC w w.heap.size v cs) (hl : cs.length ≤ 1000000000) :
    Calls Tryd.prog 19 #[vbl x v] w (BEncPost x cs w) := by
  obtain ⟨A, n, c, rfl, hn, hc⟩ := h.form
  have H := Lib.hid h
  clear h hn
  unfold vbl
  have hb0 := Box.new w 27 #[.int .i64 x.1, .int .i64 x.2.1, .int .i64 x.2.2.1, .int .i64 x.2.2.2, .slice A n c]
  have hG0 : Grew w (w.alloc (.cells #[.int .i64 x.1, .int .i64 x.2.1, .int .i64 x.2.2.1, .int .i64 x.2.2.2, .slice A n c] 27)) := (Grew.refl w).alloc _
  have hVa := rvalid_any x A n c (w.alloc (.cells #[.int .i64 x.1, .int .i64 x.2.1, .int .i64 x.2.2.1, .int .i64 x.2.2.2, .slice A n c] 27))
  unfold vbl at hVa
  have HVa := Lib.hid hVa
  have HB0 := Lib.hid hb0
  have HG0 := Lib.hid hG0
  clear hVa hb0 hG0
  by_cases hok : okB x
  · have hD : decide (okB x) = true := decide_eq_true hok
    have HD := Lib.hid hD
    have hE : bEncE x cs = encE cs := by unfold bEncE; rw [if_pos hok]
    have HE := Lib.hid hE
    have HI := Lib.hid (okB_i64 hok)
    clear hD hE hok
    go_enter Tryd.func19, Tryd.ntmps19
    go_wp2_with fail
    refine HVa.out.mono ?_
    rintro e w2 ⟨rfl, k2⟩
    rw [HD.out]
    have hG2 := HG0.out.trans k2
    have hb2 := HB0.out.grew k2
    have c4 : w2.cell? ⟨w.heap.size, 4, none⟩ = some (.slice A n c) := hb2.cell 4
    have HEn := Lib.hid (rencode_any _ cs w2 ((H.out.grew (Nat.le_refl _) hG2).more hG2.size) hl)
    clear HVa HD k2
    by_cases hz : encE cs = 0
    · have hBB : bEncB x cs = wholeB (coreB x (pack (cbits cs))) := by unfold bEncB; rw [HE.out, if_pos hz]
      have HBB := Lib.hid hBB
      have HZ := Lib.hid hz
      have hcl : (pack (cbits cs)).length ≤ 200000 := by have := encB_len cs; rw [encB_ok hz] at this; exact this
      clear hBB
      go_wp2_with fail
      refine HEn.out.mono ?_
      rintro e w4 ⟨p1, ⟨-, vc, rfl, p2⟩ | ⟨p2, -⟩⟩
      rotate_left
      · exact absurd hz p2
      clear hz HEn
      have hG4 := hG2.trans p1
      have hb4 := hb2.grew p1
      obtain ⟨Ac, nc, cc, rfl, -⟩ := p2.slice
      have d0 : w4.cell? ⟨w.heap.size, 0, none⟩ = some (.int .i64 x.1) := hb4.cell 0
      have d1 : w4.cell? ⟨w.heap.size, 1, none⟩ = some (.int .i64 x.2.1) := hb4.cell 1
      have d2 : w4.cell? ⟨w.heap.size, 2, none⟩ = some (.int .i64 x.2.2.1) := hb4.cell 2
      have d3 : w4.cell? ⟨w.heap.size, 3, none⟩ = some (.int .i64 x.2.2.2) := hb4.cell 3
      have d4 : w4.cell? ⟨w.heap.size, 4, none⟩ = some (.slice A n c) := hb4.cell 4
      have hCo := rcore_any x A n c _ _ w4 HI.out p2.rd (by omega)
      unfold vbl at hCo
      have HCo := Lib.hid hCo
      clear hCo c4
      go_wp2_with fail
      refine HCo.out.mono ?_
      rintro e w5 ⟨v5, rfl, m5, g5⟩
      obtain ⟨A5, n5, q5, rfl, -⟩ := m5.slice
      have HWh := Lib.hid (rwhole_any _ _ w5 m5.rd (coreB_bytes x (pack_bytes _)) (by have := coreB_len x (pack (cbits cs)) HI.out hcl; omega))
      clear HCo
      go_wp2_with fail
      refine HWh.out.mono ?_
      rintro e w6 ⟨v6, rfl, m6, g6⟩
      have hG6 := (hG4.trans g5).trans g6
      obtain ⟨A6, n6, q6, rfl, -⟩ := m6.slice
      go_wp2_with fail
      go_ret2
      exact ⟨_, by rw [HE.out, HZ.out]; rfl, by rw [HBB.out]; exact m6.base_le (hG4.trans g5).size, hG6⟩
    · have hBB : bEncB x cs = [] := by unfold bEncB; rw [HE.out, if_neg hz]
      have HBB := Lib.hid hBB
      clear hBB
      go_wp2_with fail
      refine HEn.out.mono ?_
      rintro e w4 ⟨p1, ⟨p2, -⟩ | ⟨p2, rfl⟩⟩
      · exact absurd p2 hz
      have hG4 := hG2.trans p1
      have tz : decide (encE cs = 0) = false := by simp [hz]
      have tz2 : (encE cs == 0) = false := by simp [hz]
      generalize encE cs = ee at *
      go_wp2_with fail
      go_ret2
      exact ⟨_, by rw [HE.out]; rfl, by rw [HBB.out]; exact Mine.nil _ _ _, hG4⟩
  · have hD : decide (okB x) = false := decide_eq_false hok
    have HD := Lib.hid hD
    have hE : bEncE x cs = 1 := by unfold bEncE; rw [if_neg hok]
    have HE := Lib.hid hE
    have hBB : bEncB x cs = [] := by unfold bEncB; rw [HE.out, if_neg (by decide)]
    have HBB := Lib.hid hBB
    clear hD hE hok hBB
    go_enter Tryd.func19, Tryd.ntmps19
    go_wp2_with fail
    refine HVa.out.mono ?_
    rintro e w2 ⟨rfl, k2⟩
    rw [HD.out]
    have hG2 := HG0.out.trans k2
    go_wp2_with fail
    go_ret2
    exact ⟨_, by rw [HE.out]; rfl, by rw [HBB.out]; exact Mine.nil _ _ _, hG2⟩
end Go.Proofs.YtjiiiimhegkklaaDoor
