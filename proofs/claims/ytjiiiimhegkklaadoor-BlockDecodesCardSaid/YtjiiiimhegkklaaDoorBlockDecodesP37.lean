/- The reference of chapter 18: Encode. -/
import Derived.Test.YtjiiiimhegkklaaDoorBlockDecodesP36
import Derived.Test.YtjiiiimhegkklaaDoorBlockDecodesP27
namespace Go.Proofs.YtjiiiimhegkklaaDoor
open Go.RowKit Pl

theorem coreB_len (x : Clm) (cb : List Nat) (hx : I64 x.1 ∧ I64 x.2.1 ∧ I64 x.2.2.1 ∧ I64 x.2.2.2) (hl : cb.length ≤ 200000) : (coreB x cb).length ≤ 300000 := by
  obtain ⟨x1, x2, x3, x4⟩ := hx
  have l1 := vint_len10 (zig_lt x1)
  have l2 := vint_len10 (zig_lt x2)
  have l3 := vint_len10 (zig_lt x3)
  have l4 := vint_len10 (zig_lt x4)
  have l5 := vint_len10 (n := cb.length) (by omega)
  unfold coreB rawB
  simp only [List.length_append]
  omega
set_option maxHeartbeats 12800000 in
set_option maxRecDepth 100000 in
theorem rbencode_any (x : Clm) (v : Value) (cs : List Clm) (w : World) (h : RdC w w.heap.size v cs) (hl : cs.length ≤ 1000000000) :
    Calls Tryd.prog 19 #[vbl x v] w (BEncPost x cs w) := by
  obtain ⟨A, n, c, rfl, hn, hc⟩ := h.form
  have H := Lib.hid h
  clear h hn
  unfold vbl
  have hb0 := Box.new w 27 #[.int .i64 x.1, .int .i64 x.2.1, .int .i64 x.2.2.1, .int .i64 x.2.2.2, .slice A n c]
  have hG0 : Grew w (w.alloc (.cells #[.int .i64 x.1, .int .i64 x.2.1, .int .i64 x.2.2.1, .int .i64 x.2.2.2, .slice A n c] 27)) := (Grew.refl w).alloc _
  have hVa := rvalid_any x A n c (w.alloc (.cells #[.int .i64 x.1, .int .i64 x.2.1, .int .i64 x.2.2.1, .int .i64 x.2.2.2, .slice A n c] 27))
  unfold vbl at hVa
  have HVa := Lib.hid hVa
  have HB0 := Lib.hid hb0
  have HG0 := Lib.hid hG0
  clear hVa hb0 hG0
  by_cases hok : okB x
  · have hD : decide (okB x) = true := decide_eq_true hok
    have HD := Lib.hid hD
    have hE : bEncE x cs = encE cs := by unfold bEncE; rw [if_pos hok]
    have HE := Lib.hid hE
    have HI := Lib.hid (okB_i64 hok)
    clear hD hE hok
    go_enter Tryd.func19, Tryd.ntmps19
    go_wp2_with fail
    refine HVa.out.mono ?_
    rintro e w2 ⟨rfl, k2⟩
    rw [HD.out]
    have hG2 := HG0.out.trans k2
    have hb2 := HB0.out.grew k2
    have c4 : w2.cell? ⟨w.heap.size, 4, none⟩ = some (.slice A n c) := hb2.cell 4
    have HEn := Lib.hid (rencode_any _ cs w2 ((H.out.grew (Nat.le_refl _) hG2).more hG2.size) hl)
    clear HVa HD k2
    by_cases hz : encE cs = 0
    · have hBB : bEncB x cs = wholeB (coreB x (pack (cbits cs))) := by unfold bEncB; rw [HE.out, if_pos hz]
      have HBB := Lib.hid hBB
      have HZ := Lib.hid hz
      have hcl : (pack (cbits cs)).length ≤ 200000 := by have := encB_len cs; rw [encB_ok hz] at this; exact this
      clear hBB
      go_wp2_with fail
      refine HEn.out.mono ?_
      rintro e w4 ⟨p1, ⟨-, vc, rfl, p2⟩ | ⟨p2, -⟩⟩
      rotate_left
      · exact absurd hz p2
      clear hz HEn
      have hG4 := hG2.trans p1
      have hb4 := hb2.grew p1
      obtain ⟨Ac, nc, cc, rfl, -⟩ := p2.slice
      have d0 : w4.cell? ⟨w.heap.size, 0, none⟩ = some (.int .i64 x.1) := hb4.cell 0
      have d1 : w4.cell? ⟨w.heap.size, 1, none⟩ = some (.int .i64 x.2.1) := hb4.cell 1
      have d2 : w4.cell? ⟨w.heap.size, 2, none⟩ = some (.int .i64 x.2.2.1) := hb4.cell 2
      have d3 : w4.cell? ⟨w.heap.size, 3, none⟩ = some (.int .i64 x.2.2.2) := hb4.cell 3
      have d4 : w4.cell? ⟨w.heap.size, 4, none⟩ = some (.slice A n c) := hb4.cell 4
      have hCo := rcore_any x A n c _ _ w4 HI.out p2.rd (by omega)
      unfold vbl at hCo
      have HCo := Lib.hid hCo
      clear hCo c4
      go_wp2_with fail
      refine HCo.out.mono ?_
      rintro e w5 ⟨v5, rfl, m5, g5⟩
      obtain ⟨A5, n5, q5, rfl, -⟩ := m5.slice
      have HWh := Lib.hid (rwhole_any _ _ w5 m5.rd (coreB_bytes x (pack_bytes _)) (by have := coreB_len x (pack (cbits cs)) HI.out hcl; omega))
      clear HCo
      go_wp2_with fail
      refine HWh.out.mono ?_
      rintro e w6 ⟨v6, rfl, m6, g6⟩
      have hG6 := (hG4.trans g5).trans g6
      obtain ⟨A6, n6, q6, rfl, -⟩ := m6.slice
      go_wp2_with fail
      go_ret2
      exact ⟨_, by rw [HE.out, HZ.out]; rfl, by rw [HBB.out]; exact m6.base_le (hG4.trans g5).size, hG6⟩
    · have hBB : bEncB x cs = [] := by unfold bEncB; rw [HE.out, if_neg hz]
      have HBB := Lib.hid hBB
      clear hBB
      go_wp2_with fail
      refine HEn.out.mono ?_
      rintro e w4 ⟨p1, ⟨p2, -⟩ | ⟨p2, rfl⟩⟩
      · exact absurd p2 hz
      have hG4 := hG2.trans p1
      have tz : decide (encE cs = 0) = false := by simp [hz]
      have tz2 : (encE cs == 0) = false := by simp [hz]
      generalize encE cs = ee at *
      go_wp2_with fail
      go_ret2
      exact ⟨_, by rw [HE.out]; rfl, by rw [HBB.out]; exact Mine.nil _ _ _, hG4⟩
  · have hD : decide (okB x) = false := decide_eq_false hok
    have HD := Lib.hid hD
    have hE : bEncE x cs = 1 := by unfold bEncE; rw [if_neg hok]
    have HE := Lib.hid hE
    have hBB : bEncB x cs = [] := by unfold bEncB; rw [HE.out, if_neg (by decide)]
    have HBB := Lib.hid hBB
    clear hD hE hok hBB
    go_enter Tryd.func19, Tryd.ntmps19
    go_wp2_with fail
    refine HVa.out.mono ?_
    rintro e w2 ⟨rfl, k2⟩
    rw [HD.out]
    have hG2 := HG0.out.trans k2
    go_wp2_with fail
    go_ret2
    exact ⟨_, by rw [HE.out]; rfl, by rw [HBB.out]; exact Mine.nil _ _ _, hG2⟩
end Go.Proofs.YtjiiiimhegkklaaDoor
