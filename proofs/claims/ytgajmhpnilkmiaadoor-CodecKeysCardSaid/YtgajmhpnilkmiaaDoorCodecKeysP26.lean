/- labels.Text: some string, not long. decl.Key: some string, not long. Pick; a declaration in a box of its own. -/
import Derived.Test.YtgajmhpnilkmiaaDoorCodecKeysP25
import Derived.Deep.RegionHeld3
namespace Go.Proofs.YtgajmhpnilkmiaaDoor
open Go.RowKit Pl

theorem grew_base {w w' : World} (h : Keeps (fun i => w.heap.size ≤ i) w w') : Grew w w' := Keeps.mono h (fun i hi e => by omega)
theorem SB.grew {w w' : World} {base g : Nat} {p v : Value} {bs : List Nat} (h : SB w base g p v bs) (k : Grew w w') : SB w' base g p v bs := ⟨h.box.grew k, h.row.grew k, h.self⟩
theorem bytes_snoc {bs : List Nat} (h : Bytes bs) {c : Nat} (hc : c < 256) : Bytes (bs ++ [c]) := fun x hx => by
  rcases List.mem_append.1 hx with h1 | h1
  · exact h x h1
  · simp at h1; omega
set_option maxHeartbeats 6400000 in
set_option maxRecDepth 100000 in
theorem ltext_any (v : Value) (ls : List (ByteArray × ByteArray)) (w : World) (h : RdL w v ls) (hl : ls.length ≤ 2) :
    Calls Tryd.prog 37 #[v] w fun e w' => ∃ s, e = .returned (.string s) ∧ s.size ≤ 200 ∧ Grew w w' := by
  obtain ⟨hsz, A, c, rfl, hx⟩ := h
  obtain ⟨n, hn⟩ : ∃ n, n = ls.length := ⟨_, rfl⟩
  rw [← hn] at hl hx ⊢
  have HSZ := Lib.hid hsz
  have HX := Lib.hid hx
  have HN := Lib.hid hn
  have hB0 : SB (w.alloc (.cells #[.pointer none, .slice none 0 0] 125)) w.heap.size w.heap.size (.pointer none) (.slice none 0 0) [] := ⟨Box.new w 125 _, Mine.nil _ _ _, .inl rfl⟩
  have hsa : (w.alloc (.cells #[.pointer none, .slice none 0 0] 125)).heap.size = w.heap.size + 1 := by simp
  have HW0 := Lib.hid (writeByte_any w.heap.size w.heap.size _ _ [] 123 _ hB0 (by simp) (by omega))
  have HG0 := Lib.hid ((Grew.refl w).alloc (.cells #[.pointer none, .slice none 0 0] 125))
  have HB0 := Lib.hid hB0
  clear hsz hx hn hB0 hsa
  go_enter Tryd.func37, Tryd.ntmps37
  go_wp2_with fail
  refine HW0.out.mono ?_
  rintro e w1 ⟨rfl, p1, v1, b1, k1⟩
  rw [List.nil_append] at b1
  have hG1 : Grew w w1 := grew_base (Keeps.then_ HG0.out.keeps (HB0.out.keepsB (Nat.le_refl _) k1) (fun i _ e => e))
  clear HW0 HG0 k1 HB0
  have HB1 := Lib.hid b1
  have HG1 := Lib.hid hG1
  clear b1 hG1
  go_wp2_with fail
  go_loopw [9] (fun i wr => ∃ (j : Nat) (p u : Value) (bs : List Nat), j ≤ n ∧ i = .int .i64 (j : Nat) ∧ SB wr w.heap.size w.heap.size p u bs ∧ Bytes bs ∧ 0 < bs.length ∧ bs.length ≤ 1 + 60 * j ∧ Grew w wr) (fun i _ => n - (intOf i).toNat)
  case atStart => exact ⟨0, p1, v1, [123], by omega, rfl, HB1.out, by intro x hx; simp at hx; omega, by simp, by simp, HG1.out⟩
  case round =>
    clear HB1 HG1
    obtain ⟨j, p, u, bs, hj, rfl, hB, hb, hb0, hbl, hG⟩ := hrel
    have hsr := hG.size
    by_cases hlt : j < n
    · obtain ⟨b, rfl, hblk, hcell⟩ := HX.out (by omega)
      have hjl : j < ls.length := by rw [← HN.out]; exact hlt
      obtain ⟨x0, x1⟩ := hcell j _ (List.getElem?_eq_getElem hjl)
      have hbk := hG.block b hblk (fun e => e)
      have y0 := (World.cell?_of_block (a := ⟨b, j * 2, none⟩) hbk).trans x0
      have y1 := (World.cell?_of_block (a := ⟨b, j * 2 + 1, none⟩) hbk).trans x1
      have hss := HSZ.out ls[j] (List.getElem_mem hjl)
      generalize ls[j] = lab at *
      obtain ⟨nm, vl⟩ := lab
      simp only at y0 y1 hss
      clear x0 x1 hcell hbk
      have hGa := hG.alloc (.cells #[.string nm, .string vl] 130)
      have hBa := hB.grew ((Grew.refl wr).alloc (.cells #[.string nm, .string vl] 130))
      have hbox := Box.new wr 130 #[.string nm, .string vl]
      by_cases hj0 : 0 < j
      · have t0 : decide (0 < j) = true := by simp [hj0]
        clear hG hB
        go_upto_region 7 with fail
        generalize wr.alloc (.cells #[.string nm, .string vl] 130) = wA at *
        have hsA := hGa.size
        have z0 : wA.cell? ⟨wr.heap.size, 0, none⟩ = some (.string nm) := hbox.cell 0
        have z1 : wA.cell? ⟨wr.heap.size, 1, none⟩ = some (.string vl) := hbox.cell 1
        have HC1 := Lib.hid (writeByte_any w.heap.size w.heap.size _ _ bs 44 wA hBa (by omega) (by omega))
        go_wp2_with fail
        refine HC1.out.mono ?_
        rintro e w1x ⟨rfl, pp1, vv1, hB1, kk1⟩
        have hG1 : Grew w w1x := Keeps.then_ hGa (hBa.keepsB (Nat.le_refl _) kk1) (fun i hi e => by omega)
        have hx1 := hbox.keepSB hBa kk1 (by decide) (by decide)
        have hs1 := hG1.size
        have hy1 : Bytes (bs ++ [44]) := bytes_snoc hb (by omega)
        have hl1 : (bs ++ [44]).length ≤ 1 + 60 * j + 1 := by rw [List.length_append]; simp; omega
        have hz1 : 0 < (bs ++ [44]).length := by rw [List.length_append]; omega
        have z0 : w1x.cell? ⟨wr.heap.size, 0, none⟩ = some (.string nm) := hx1.cell 0
        have z1 : w1x.cell? ⟨wr.heap.size, 1, none⟩ = some (.string vl) := hx1.cell 1
        generalize (bs ++ [44]) = bs1 at *
        clear HC1 hGa hbox hBa kk1
        have HC2 := Lib.hid (writeString_any w.heap.size w.heap.size _ _ bs1 nm w1x hB1 (by omega) (by omega) (by omega))
        go_wp2_with fail
        refine HC2.out.mono ?_
        rintro e w2x ⟨⟨u2, rfl⟩, pp2, vv2, hB2, kk2⟩
        have hG2 : Grew w w2x := Keeps.then_ hG1 (hB1.keepsB (Nat.le_refl _) kk2) (fun i hi e => by omega)
        have hx2 := hx1.keepSB hB1 kk2 (by decide) (by decide)
        have hs2 := hG2.size
        have hy2 : Bytes (bs1 ++ bl nm) := bytes_app hy1 (bl_bytes _)
        have hl2 : (bs1 ++ bl nm).length ≤ 1 + 60 * j + 1 + 16 := by rw [List.length_append, bl_length]; omega
        have hz2 : 0 < (bs1 ++ bl nm).length := by rw [List.length_append]; omega
        have z0 : w2x.cell? ⟨wr.heap.size, 0, none⟩ = some (.string nm) := hx2.cell 0
        have z1 : w2x.cell? ⟨wr.heap.size, 1, none⟩ = some (.string vl) := hx2.cell 1
        generalize (bs1 ++ bl nm) = bs2 at *
        clear HC2 hG1 hx1 hB1 kk2
        have HC3 := Lib.hid (writeString_any w.heap.size w.heap.size _ _ bs2 ⟨#[61, 34]⟩ w2x hB2 (by omega) (by decide) (by omega))
        go_wp2_with fail
        refine HC3.out.mono ?_
        rintro e w3x ⟨⟨u3, rfl⟩, pp3, vv3, hB3, kk3⟩
        have hG3 : Grew w w3x := Keeps.then_ hG2 (hB2.keepsB (Nat.le_refl _) kk3) (fun i hi e => by omega)
        have hx3 := hx2.keepSB hB2 kk3 (by decide) (by decide)
        have hs3 := hG3.size
        have hy3 : Bytes (bs2 ++ bl ⟨#[61, 34]⟩) := bytes_app hy2 (bl_bytes _)
        have hl3 : (bs2 ++ bl ⟨#[61, 34]⟩).length ≤ 1 + 60 * j + 1 + 16 + 2 := by rw [List.length_append, bl_length]; have : (ByteArray.mk #[61, 34]).size = 2 := rfl; omega
        have hz3 : 0 < (bs2 ++ bl ⟨#[61, 34]⟩).length := by rw [List.length_append]; omega
        have z0 : w3x.cell? ⟨wr.heap.size, 0, none⟩ = some (.string nm) := hx3.cell 0
        have z1 : w3x.cell? ⟨wr.heap.size, 1, none⟩ = some (.string vl) := hx3.cell 1
        generalize (bs2 ++ bl ⟨#[61, 34]⟩) = bs3 at *
        clear HC3 hG2 hx2 hB2 kk3
        have HC4 := Lib.hid (writeString_any w.heap.size w.heap.size _ _ bs3 vl w3x hB3 (by omega) (by omega) (by omega))
        go_wp2_with fail
        refine HC4.out.mono ?_
        rintro e w4x ⟨⟨u4, rfl⟩, pp4, vv4, hB4, kk4⟩
        have hG4 : Grew w w4x := Keeps.then_ hG3 (hB3.keepsB (Nat.le_refl _) kk4) (fun i hi e => by omega)
        have hx4 := hx3.keepSB hB3 kk4 (by decide) (by decide)
        have hs4 := hG4.size
        have hy4 : Bytes (bs3 ++ bl vl) := bytes_app hy3 (bl_bytes _)
        have hl4 : (bs3 ++ bl vl).length ≤ 1 + 60 * j + 1 + 16 + 2 + 16 := by rw [List.length_append, bl_length]; omega
        have hz4 : 0 < (bs3 ++ bl vl).length := by rw [List.length_append]; omega
        have z0 : w4x.cell? ⟨wr.heap.size, 0, none⟩ = some (.string nm) := hx4.cell 0
        have z1 : w4x.cell? ⟨wr.heap.size, 1, none⟩ = some (.string vl) := hx4.cell 1
        generalize (bs3 ++ bl vl) = bs4 at *
        clear HC4 hG3 hx3 hB3 kk4
        have HC5 := Lib.hid (writeByte_any w.heap.size w.heap.size _ _ bs4 34 w4x hB4 (by omega) (by omega))
        go_wp2_with fail
        refine HC5.out.mono ?_
        rintro e w5x ⟨rfl, pp5, vv5, hB5, kk5⟩
        have hG5 : Grew w w5x := Keeps.then_ hG4 (hB4.keepsB (Nat.le_refl _) kk5) (fun i hi e => by omega)
        have hx5 := hx4.keepSB hB4 kk5 (by decide) (by decide)
        have hs5 := hG5.size
        have hy5 : Bytes (bs4 ++ [34]) := bytes_snoc hy4 (by omega)
        have hl5 : (bs4 ++ [34]).length ≤ 1 + 60 * j + 1 + 16 + 2 + 16 + 1 := by rw [List.length_append]; simp; omega
        have hz5 : 0 < (bs4 ++ [34]).length := by rw [List.length_append]; omega
        have z0 : w5x.cell? ⟨wr.heap.size, 0, none⟩ = some (.string nm) := hx5.cell 0
        have z1 : w5x.cell? ⟨wr.heap.size, 1, none⟩ = some (.string vl) := hx5.cell 1
        generalize (bs4 ++ [34]) = bs5 at *
        clear HC5 hG4 hx4 hB4 kk5
        go_wp2_with fail
        go_roundw
        case rel => exact ⟨j + 1, _, _, bs5, by omega, by go_num, hB5, hy5, hz5, by omega, hG5⟩
        case measure => simp [intOf]; omega
      · have t0 : decide (0 < j) = false := by simp; omega
        clear hG hB
        go_upto_region 8 with fail
        generalize wr.alloc (.cells #[.string nm, .string vl] 130) = wA at *
        have hsA := hGa.size
        have z0 : wA.cell? ⟨wr.heap.size, 0, none⟩ = some (.string nm) := hbox.cell 0
        have z1 : wA.cell? ⟨wr.heap.size, 1, none⟩ = some (.string vl) := hbox.cell 1
        have HC1 := Lib.hid (writeString_any w.heap.size w.heap.size _ _ bs nm wA hBa (by omega) (by omega) (by omega))
        go_wp2_with fail
        refine HC1.out.mono ?_
        rintro e w1x ⟨⟨u1, rfl⟩, pp1, vv1, hB1, kk1⟩
        have hG1 : Grew w w1x := Keeps.then_ hGa (hBa.keepsB (Nat.le_refl _) kk1) (fun i hi e => by omega)
        have hx1 := hbox.keepSB hBa kk1 (by decide) (by decide)
        have hs1 := hG1.size
        have hy1 : Bytes (bs ++ bl nm) := bytes_app hb (bl_bytes _)
        have hl1 : (bs ++ bl nm).length ≤ 1 + 60 * j + 16 := by rw [List.length_append, bl_length]; omega
        have hz1 : 0 < (bs ++ bl nm).length := by rw [List.length_append]; omega
        have z0 : w1x.cell? ⟨wr.heap.size, 0, none⟩ = some (.string nm) := hx1.cell 0
        have z1 : w1x.cell? ⟨wr.heap.size, 1, none⟩ = some (.string vl) := hx1.cell 1
        generalize (bs ++ bl nm) = bs1 at *
        clear HC1 hGa hbox hBa kk1
        have HC2 := Lib.hid (writeString_any w.heap.size w.heap.size _ _ bs1 ⟨#[61, 34]⟩ w1x hB1 (by omega) (by decide) (by omega))
        go_wp2_with fail
        refine HC2.out.mono ?_
        rintro e w2x ⟨⟨u2, rfl⟩, pp2, vv2, hB2, kk2⟩
        have hG2 : Grew w w2x := Keeps.then_ hG1 (hB1.keepsB (Nat.le_refl _) kk2) (fun i hi e => by omega)
        have hx2 := hx1.keepSB hB1 kk2 (by decide) (by decide)
        have hs2 := hG2.size
        have hy2 : Bytes (bs1 ++ bl ⟨#[61, 34]⟩) := bytes_app hy1 (bl_bytes _)
        have hl2 : (bs1 ++ bl ⟨#[61, 34]⟩).length ≤ 1 + 60 * j + 16 + 2 := by rw [List.length_append, bl_length]; have : (ByteArray.mk #[61, 34]).size = 2 := rfl; omega
        have hz2 : 0 < (bs1 ++ bl ⟨#[61, 34]⟩).length := by rw [List.length_append]; omega
        have z0 : w2x.cell? ⟨wr.heap.size, 0, none⟩ = some (.string nm) := hx2.cell 0
        have z1 : w2x.cell? ⟨wr.heap.size, 1, none⟩ = some (.string vl) := hx2.cell 1
        generalize (bs1 ++ bl ⟨#[61, 34]⟩) = bs2 at *
        clear HC2 hG1 hx1 hB1 kk2
        have HC3 := Lib.hid (writeString_any w.heap.size w.heap.size _ _ bs2 vl w2x hB2 (by omega) (by omega) (by omega))
        go_wp2_with fail
        refine HC3.out.mono ?_
        rintro e w3x ⟨⟨u3, rfl⟩, pp3, vv3, hB3, kk3⟩
        have hG3 : Grew w w3x := Keeps.then_ hG2 (hB2.keepsB (Nat.le_refl _) kk3) (fun i hi e => by omega)
        have hx3 := hx2.keepSB hB2 kk3 (by decide) (by decide)
        have hs3 := hG3.size
        have hy3 : Bytes (bs2 ++ bl vl) := bytes_app hy2 (bl_bytes _)
        have hl3 : (bs2 ++ bl vl).length ≤ 1 + 60 * j + 16 + 2 + 16 := by rw [List.length_append, bl_length]; omega
        have hz3 : 0 < (bs2 ++ bl vl).length := by rw [List.length_append]; omega
        have z0 : w3x.cell? ⟨wr.heap.size, 0, none⟩ = some (.string nm) := hx3.cell 0
        have z1 : w3x.cell? ⟨wr.heap.size, 1, none⟩ = some (.string vl) := hx3.cell 1
        generalize (bs2 ++ bl vl) = bs3 at *
        clear HC3 hG2 hx2 hB2 kk3
        have HC4 := Lib.hid (writeByte_any w.heap.size w.heap.size _ _ bs3 34 w3x hB3 (by omega) (by omega))
        go_wp2_with fail
        refine HC4.out.mono ?_
        rintro e w4x ⟨rfl, pp4, vv4, hB4, kk4⟩
        have hG4 : Grew w w4x := Keeps.then_ hG3 (hB3.keepsB (Nat.le_refl _) kk4) (fun i hi e => by omega)
        have hx4 := hx3.keepSB hB3 kk4 (by decide) (by decide)
        have hs4 := hG4.size
        have hy4 : Bytes (bs3 ++ [34]) := bytes_snoc hy3 (by omega)
        have hl4 : (bs3 ++ [34]).length ≤ 1 + 60 * j + 16 + 2 + 16 + 1 := by rw [List.length_append]; simp; omega
        have hz4 : 0 < (bs3 ++ [34]).length := by rw [List.length_append]; omega
        have z0 : w4x.cell? ⟨wr.heap.size, 0, none⟩ = some (.string nm) := hx4.cell 0
        have z1 : w4x.cell? ⟨wr.heap.size, 1, none⟩ = some (.string vl) := hx4.cell 1
        generalize (bs3 ++ [34]) = bs4 at *
        clear HC4 hG3 hx3 hB3 kk4
        go_wp2_with fail
        go_roundw
        case rel => exact ⟨j + 1, _, _, bs4, by omega, by go_num, hB4, hy4, hz4, by omega, hG4⟩
        case measure => simp [intOf]; omega
    · have HC := Lib.hid (writeByte_any w.heap.size w.heap.size _ _ bs 125 wr hB (by omega) (by omega))
      go_wp2_with fail
      refine HC.out.mono ?_
      rintro e w2 ⟨rfl, p2, v2, hB2, k2⟩
      have hG2 : Grew w w2 := Keeps.then_ hG (hB.keepsB (Nat.le_refl _) k2) (fun i hi e => by omega)
      have hy2 : Bytes (bs ++ [125]) := bytes_snoc hb (by omega)
      have hz2 : 0 < (bs ++ [125]).length := by simp
      have hl2 : (bs ++ [125]).length ≤ 2 + 60 * j := by simp; omega
      generalize bs ++ [125] = bs2 at *
      have HS := Lib.hid (sbString_any w.heap.size w.heap.size _ _ bs2 w2 hB2 hz2 hy2 (by omega))
      clear HC hB k2 hG
      go_wp2_with fail
      refine HS.out.mono ?_
      rintro e w3 ⟨s, rfl, hsb, k3⟩
      have hG3 : Grew w w3 := Keeps.then_ hG2 k3 (fun i hi e => by omega)
      have hss : s.size ≤ 200 := by rw [← bl_length, hsb]; omega
      clear hsb
      go_wp2_with fail
      go_ret
      exact ⟨s, rfl, hss, hG3⟩
end Go.Proofs.YtgajmhpnilkmiaaDoor
namespace Go.Proofs.YtgajmhpnilkmiaaDoor
open Go.RowKit Pl

/- a declaration: its name, its labels, whatever the numbers are -/
def vdecl (nm : ByteArray) (v : Value) (x : Fin 10 → Int) : Value :=
  .agg #[.string nm, v, .int .i64 (x 0), .int .i64 (x 1), .int .i64 (x 2), .int .i64 (x 3), .int .i64 (x 4), .int .i64 (x 5), .int .i64 (x 6), .int .i64 (x 7), .int .i64 (x 8), .int .i64 (x 9)]
set_option maxHeartbeats 6400000 in
set_option maxRecDepth 100000 in
theorem key_any (nm : ByteArray) (v : Value) (ls : List (ByteArray × ByteArray)) (x : Fin 10 → Int) (w : World) (hnm : nm.size ≤ 16) (h : RdL w v ls) (hl : ls.length ≤ 2) :
    Calls Tryd.prog 6 #[vdecl nm v x] w fun e w' => ∃ s, e = .returned (.string s) ∧ s.size ≤ 300 ∧ Grew w w' := by
  have HT := Lib.hid (fun w' (g : Grew w w') => ltext_any v ls w' (h.grew g) hl)
  obtain ⟨-, A, c, rfl, -⟩ := h
  generalize ls.length = n at *
  clear hl
  unfold vdecl
  go_enter Tryd.func6, Tryd.ntmps6
  go_upto_region 1 with fail
  have hbx := Box.new w 29 #[.string nm, .slice A n c, .int .i64 (x 0), .int .i64 (x 1), .int .i64 (x 2), .int .i64 (x 3), .int .i64 (x 4), .int .i64 (x 5), .int .i64 (x 6), .int .i64 (x 7), .int .i64 (x 8), .int .i64 (x 9)]
  have hG1 : Grew w (w.alloc (.cells #[.string nm, .slice A n c, .int .i64 (x 0), .int .i64 (x 1), .int .i64 (x 2), .int .i64 (x 3), .int .i64 (x 4), .int .i64 (x 5), .int .i64 (x 6), .int .i64 (x 7), .int .i64 (x 8), .int .i64 (x 9)] 29)) := (Grew.refl w).alloc _
  generalize w.alloc (.cells #[.string nm, .slice A n c, .int .i64 (x 0), .int .i64 (x 1), .int .i64 (x 2), .int .i64 (x 3), .int .i64 (x 4), .int .i64 (x 5), .int .i64 (x 6), .int .i64 (x 7), .int .i64 (x 8), .int .i64 (x 9)] 29) = w1 at *
  have hS : ∀ w', Grew w1 w' → w'.cell? ⟨w.heap.size, 0, none⟩ = some (.string nm) ∧ w'.cell? ⟨w.heap.size, 1, none⟩ = some (.slice A n c) := fun w' g => ⟨(hbx.grew g).cell 0, (hbx.grew g).cell 1⟩
  have HS := Lib.hid hS
  have gz : Grew w1 w1.drew := Keeps.drew (Grew.refl w1)
  have cz := hS w1.drew gz
  have HG1 := Lib.hid hG1
  clear hS hbx hG1
  go_region_held3 (fun w' => w'.cell? ⟨w.heap.size, 0, none⟩ = some (.string nm) ∧ w'.cell? ⟨w.heap.size, 1, none⟩ = some (.slice A n c)) (first | assumption | exact HS.out _ (by assumption) | exact HS.out _ (Keeps.drew (Grew.refl _)))
    (first | (go_at_call 37; (with_reducible refine (HT.out w1.drew (HG1.out.trans gz)).mono ?_); rintro e wa ⟨s, rfl, hs, ga⟩; have q1 : (nm.size + s.size > 9223372036854775807) = False := eq_false (by omega); have q2 : (9223372036854775807 < nm.size + s.size) = False := q1; have gA := gz.trans ga; have cA := HS.out wa gA))
  go_wp2_with fail
  go_ret
  exact ⟨nm ++ s, rfl, by rw [ByteArray.size_append]; omega, HG1.out.trans gA⟩
end Go.Proofs.YtgajmhpnilkmiaaDoor
namespace Go.Proofs.YtgajmhpnilkmiaaDoor
open Go.RowKit Pl

def pickV (l : List Int) (i m : Nat) : Nat := if i < l.length then arnd (l.getD i 0) m else 0
theorem pickV_lt (l : List Int) (i m : Nat) (hm : 0 < m) : pickV l i m < m := by
  unfold pickV
  split
  · exact arnd_lt _ _ hm
  · exact hm
set_option maxHeartbeats 1600000 in
set_option maxRecDepth 100000 in
theorem pick_any (v : Value) (l : List Int) (i m : Nat) (w : World) (h : Rd w w.heap.size v (l.map vi)) (hi : ∀ x ∈ l, I64 x) (hl : l.length ≤ 1000) (_ : i ≤ 1000) (hm : 0 < m) (hm2 : m ≤ 1000) :
    Calls Tryd.prog 38 #[v, .int .i64 (i : Nat), .int .i64 (m : Nat)] w fun e w' => e = .returned (.int .i64 (pickV l i m : Nat)) ∧ w' = w := by
  obtain ⟨A, n, c, rfl, hn, hc⟩ := h.form
  rw [List.length_map] at hn
  by_cases hlt : i < n
  · have hpv : pickV l i m = arnd (l.getD i 0) m := by unfold pickV; rw [if_pos (by omega)]
    rw [hpv]
    clear hpv
    obtain ⟨ad, rfl, hadb, hcell⟩ := h.int_at (j := i) (by omega)
    have HA := Lib.hid (still_around (l.getD i 0) m w (getD_I64 hi i) hm (by omega))
    generalize l.getD i 0 = x at *
    generalize arnd x m = k at *
    have hnl : n ≤ 1000 := by omega
    have t0 : decide ((i : Int) < 0) = false := by simp
    have t1 : decide (n ≤ i) = false := by simp; omega
    have t2 : decide ((n : Int) ≤ (i : Int)) = false := by simp; omega
    clear h hn hi
    go_enter Tryd.func38, Tryd.ntmps38
    go_wp2_with fail
    refine HA.out.mono ?_
    rintro e w' ⟨rfl, hw'⟩
    rw [hw']; clear hw' w'
    go_wp2_with fail
    go_ret
    exact ⟨rfl, rfl⟩
  · have hpv : pickV l i m = 0 := by unfold pickV; rw [if_neg (by omega)]
    rw [hpv]
    clear hpv
    have hnl : n ≤ 1000 := by omega
    have t0 : decide ((i : Int) < 0) = false := by simp
    have t1 : decide (n ≤ i) = true := by simp; omega
    have t2 : decide ((n : Int) ≤ (i : Int)) = true := by simp; omega
    clear h hn hi
    go_enter Tryd.func38, Tryd.ntmps38
    go_wp2_with fail
    go_ret
    exact ⟨rfl, rfl⟩
/- twelve cells -/
def cells12 (nm : ByteArray) (v : Value) (x : Fin 10 → Int) : List Value :=
  [.string nm, v, .int .i64 (x 0), .int .i64 (x 1), .int .i64 (x 2), .int .i64 (x 3), .int .i64 (x 4), .int .i64 (x 5), .int .i64 (x 6), .int .i64 (x 7), .int .i64 (x 8), .int .i64 (x 9)]
theorem vdecl_cells (nm : ByteArray) (v : Value) (x : Fin 10 → Int) : vdecl nm v x = .agg (cells12 nm v x).toArray := rfl
theorem info12 : (Tryd.prog.info? 29).map (·.size) = some 12 := by kernel_rfl
section
variable {w : World} {g : Nat} {t : TypeId} {nm : ByteArray} {v : Value} {x : Fin 10 → Int}
theorem Box.there12 (h : Box w g t (cells12 nm v x).toArray) : w.there g 0 12 := by
  intro j hj
  refine ⟨?_, ?_⟩
  · rw [Nat.zero_add, h.cell]
    simp [cells12, hj]
  · rw [Nat.zero_add]; exact h.frozen j
theorem Box.range12 (h : Box w g t (cells12 nm v x).toArray) : w.rangeAt g 0 (cells12 nm v x) := fun j u hu => by
  rw [Nat.zero_add, h.cell]
  simpa using hu
theorem put12_keeps (w : World) (g : Nat) (xs : List Value) (hl : xs.length = 12) : Keeps (fun i => i = g) w (w.setCells g 0 xs) := by
  match xs, hl with
  | [x0, x1, x2, x3, x4, x5, x6, x7, x8, x9, xa, xb], _ =>
    show Keeps _ w ((((((((((((w.setCell ⟨g, 0, none⟩ _).setCell ⟨g, 1, none⟩ _).setCell ⟨g, 2, none⟩ _).setCell ⟨g, 3, none⟩ _).setCell ⟨g, 4, none⟩ _).setCell ⟨g, 5, none⟩ _).setCell ⟨g, 6, none⟩ _).setCell ⟨g, 7, none⟩ _).setCell ⟨g, 8, none⟩ _).setCell ⟨g, 9, none⟩ _).setCell ⟨g, 10, none⟩ _).setCell ⟨g, 11, none⟩ _)
    iterate 12 (refine Keeps.setCell (S := fun i => i = g) ?_ (.inl rfl) _)
    exact Keeps.refl _ _
set_option maxHeartbeats 3200000 in
theorem Box.put12 (h : Box w g t (cells12 nm v x).toArray) (nm' : ByteArray) (v' : Value) (x' : Fin 10 → Int) : Box (w.setCells g 0 (cells12 nm' v' x')) g t (cells12 nm' v' x').toArray := by
  have h1 := (((((((((((h.set_ 0 (.string nm')).set_ 1 v').set_ 2 (.int .i64 (x' 0))).set_ 3 (.int .i64 (x' 1))).set_ 4 (.int .i64 (x' 2))).set_ 5 (.int .i64 (x' 3))).set_ 6 (.int .i64 (x' 4))).set_ 7 (.int .i64 (x' 5))).set_ 8 (.int .i64 (x' 6))).set_ 9 (.int .i64 (x' 7))).set_ 10 (.int .i64 (x' 8))).set_ 11 (.int .i64 (x' 9))
  show Box ((((((((((((w.setCell ⟨g, 0, none⟩ _).setCell ⟨g, 1, none⟩ _).setCell ⟨g, 2, none⟩ _).setCell ⟨g, 3, none⟩ _).setCell ⟨g, 4, none⟩ _).setCell ⟨g, 5, none⟩ _).setCell ⟨g, 6, none⟩ _).setCell ⟨g, 7, none⟩ _).setCell ⟨g, 8, none⟩ _).setCell ⟨g, 9, none⟩ _).setCell ⟨g, 10, none⟩ _).setCell ⟨g, 11, none⟩ _) g t _
  simpa [cells12] using h1
def upd (x : Fin 10 → Int) (k : Nat) (n : Int) : Fin 10 → Int := fun i => if i.val = k then n else x i
theorem Box.put1d (h : Box w g t (cells12 nm v x).toArray) (k : Nat) (hk : k < 10) (n : Int) : Box (w.setCell ⟨g, k + 2, none⟩ (.int .i64 n)) g t (cells12 nm v (upd x k n)).toArray := by
  have h1 := h.set_ (k + 2) (.int .i64 n)
  have : k = 0 ∨ k = 1 ∨ k = 2 ∨ k = 3 ∨ k = 4 ∨ k = 5 ∨ k = 6 ∨ k = 7 ∨ k = 8 ∨ k = 9 := by omega
  rcases this with rfl | rfl | rfl | rfl | rfl | rfl | rfl | rfl | rfl | rfl <;> exact h1
section
variable {ops : Array Oper} {rest : List Oper} {o : Oper} {a : Act} {Q : Exit → Act → World → Prop}
theorem st1d (xo yo : Operand) (k : Nat) (hk : k < 10) (n : Int) (hgd : o.guard = none) (ho : o.op = .store 3 xo yo)
    (hx : a.eval xo = .pointer (some ⟨g, k + 2, none⟩)) (hy : a.eval yo = .int .i64 n) (hb : Box w g t (cells12 nm v x).toArray)
    (h : ∀ w', (∃ x', Box w' g t (cells12 nm v x').toArray) → Keeps (fun i => i = g) w w' → wpList Tryd.prog ops Q rest (a.put o.dst undef) w') : wpList Tryd.prog ops Q (o :: rest) a w := by
  have hu : ∃ u, (cells12 nm v x).toArray[k + 2]? = some u := ⟨(cells12 nm v x)[k + 2]'(by simp [cells12]; omega), by simp⟩
  obtain ⟨u, hu⟩ := hu
  have hc := (hb.cell (k + 2)).trans hu
  have hf := hb.frozen (k + 2)
  have hk' : Keeps (fun i => i = g) w (w.setCell ⟨g, k + 2, none⟩ (.int .i64 n)) := (Keeps.refl (fun i => i = g) w).setCell (p := ⟨g, k + 2, none⟩) (.inl rfl) _
  refine wpList_plain hgd fun K hK => ?_
  unfold Oper.wp execOp
  simp only [ho, hx, hy]
  go_simp
  exact hK _ _ (h _ ⟨_, hb.put1d k hk n⟩ hk')
theorem st12 (xo yo : Operand) (nm' : ByteArray) (A : Option Addr) (n c : Nat) (x' : Fin 10 → Int) (hgd : o.guard = none) (ho : o.op = .store 29 xo yo)
    (hx : a.eval xo = .pointer (some ⟨g, 0, none⟩)) (hy : a.eval yo = .agg (cells12 nm' (.slice A n c) x').toArray) (hb : Box w g t (cells12 nm v x).toArray)
    (h : ∀ w', Box w' g t (cells12 nm' (.slice A n c) x').toArray → Keeps (fun i => i = g) w w' → wpList Tryd.prog ops Q rest (a.put o.dst undef) w') : wpList Tryd.prog ops Q (o :: rest) a w := by
  refine wpList_store_mid hgd 29 xo yo ho g 0 (cells12 nm' (.slice A n c) x').toArray hx hy hb.there12 info12 ?_ ?_
  · simp [cells12, Value.oneCell']
  · exact h _ (hb.put12 nm' _ x') (put12_keeps w g _ rfl)
theorem ld12 (xo : Operand) (hgd : o.guard = none) (ho : o.op = .load 29 xo)
    (hx : a.eval xo = .pointer (some ⟨g, 0, none⟩)) (hb : Box w g t (cells12 nm v x).toArray)
    (h : wpList Tryd.prog ops Q rest (a.put o.dst (.agg (cells12 nm v x).toArray)) w) : wpList Tryd.prog ops Q (o :: rest) a w :=
  wpList_load_mid hgd 29 xo ho g 0 hx (cells12 nm v x) _ hb.range12 Tryd.underlying29 rfl info12 h
end
theorem results_cell12 {fn : Func} {p : Tmp} (h : fn.results = #[.cell p 29]) {tmps : Array Value} (hp : tmps.getD p undef = .pointer (some ⟨g, 0, none⟩)) (hb : Box w g t (cells12 nm v x).toArray) :
    (results fn tmps).run Tryd.prog w = .ok (vdecl nm v x) w := by
  have hl := run_loadVar_mid (P := Tryd.prog) w g 0 29 (cells12 nm v x) _ hb.range12 Tryd.underlying29 rfl info12
  simp only [results, h]
  rw [Array.getD_eq_getD_getElem?] at hp
  simp [hp, hl, asAddr, vdecl_cells]
end
end Go.Proofs.YtgajmhpnilkmiaaDoor
