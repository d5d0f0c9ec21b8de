/- claims.Bands: only its error counts. -/
import Derived.Test.YtgkmfblmkfclbaaGreatDoorBlockSoundP35
namespace Go.Proofs.YtgkmfblmkfclbaaGreatDoor
open Go.RowKit Pl

theorem flat_set1 : ∀ (cs : List Clm) (j : Nat) (y : Int), j < cs.length → flat (cs.set j ((cs.getD j zc).1, y, (cs.getD j zc).2.2)) = (flat cs).set (j * 4 + 1) (.int .i64 y)
  | [], _, _, h => by simp at h
  | c :: cs, 0, y, _ => by simp [flat, cells4]
  | c :: cs, j + 1, y, h => by
    have ih := flat_set1 cs j y (by simpa using h)
    have e : (j + 1) * 4 + 1 = (j * 4 + 1) + 1 + 1 + 1 + 1 := by omega
    unfold flat at *
    simp only [List.set_cons_succ, List.flatMap_cons, List.getD_cons_succ, e]
    rw [ih]
    simp [cells4]
theorem MineC.setTo {w : World} {base g m c : Nat} {cs : List Clm} (h : MineC w base (.slice (some ⟨g, 0, none⟩) m c) cs) {j : Nat} (hj : j < cs.length) (y : Int) : MineC (w.setCell ⟨g, j * 4 + 1, none⟩ (.int .i64 y)) base (.slice (some ⟨g, 0, none⟩) m c) (cs.set j ((cs.getD j zc).1, y, (cs.getD j zc).2.2)) := by
  rcases h.form with ⟨hv, _⟩ | ⟨g', cap, cur, hv, hb, hbox, h1, h2, h3, h4⟩
  · cases hv
  · injection hv with hv1 hv2 hv3
    injection hv1 with hv1
    injection hv1 with hv1
    subst hv1 hv2 hv3
    have hl : (cs.set j ((cs.getD j zc).1, y, (cs.getD j zc).2.2)).length = cs.length := by simp
    refine ⟨by rw [flat_length], .inr ⟨g, c, cur.setIfInBounds (j * 4 + 1) (.int .i64 y), by rw [hl], hb, hbox.set_ _ _, by rw [hl]; exact h1, h2, by simpa using h3, ?_⟩⟩
    rw [hl, flat_set1 cs j y hj, Array.toList_setIfInBounds, List.take_set, h4]
/- the error of Bands -/
def bErr (x : Fin 10 → Int) (n : Nat) (cs : List Clm) : Int := if crossB (bandE x n cs).1 (bandE x n cs).2 = true then 13 else 0
theorem bErr_yes {x : Fin 10 → Int} {n : Nat} {cs : List Clm} {e : EnvL} (h : bandE x n cs = e) (hc : crossB e.1 e.2 = true) : bErr x n cs = 13 := by unfold bErr; rw [h, if_pos hc]
theorem bErr_no {x : Fin 10 → Int} {n : Nat} {cs : List Clm} {e : EnvL} (h : bandE x n cs = e) (hc : crossB e.1 e.2 = false) : bErr x n cs = 0 := by unfold bErr; rw [h, if_neg (by rw [hc]; decide)]
def BandsPost (r : Int) (w : World) (e : Ending) (w' : World) : Prop := ∃ u, e = .returned (.tuple #[u, .int .i64 r]) ∧ Grew w w'
set_option maxHeartbeats 12800000 in
set_option maxRecDepth 100000 in
theorem bands_any (nm : ByteArray) (A : Option Addr) (n c : Nat) (ls : List (ByteArray × ByteArray)) (x : Fin 10 → Int) (v : Value) (cs : List Clm) (w : World) (hnm : Low nm) (hL : RdL w (.slice A n c) ls) (hls : GoodL ls) (hx : GoodD x) (hr : RdC w w.heap.size v cs) (hv : ∀ c ∈ cs, ValidC x c) (hl : cs.length ≤ 4096) :
    Calls Tryz.prog 21 #[vdecl nm (.slice A n c) x, v] w (BandsPost (bErr x (spanD x) cs) w) := by
  have HX := Lib.hid hx
  have HR := Lib.hid hr
  have HV := Lib.hid hv
  obtain ⟨hs1, hs2⟩ := spanD_le hx
  have HSE := Lib.hid (spanD_eq hx)
  have HSp := Lib.hid (fun w' => span_any nm A n c x w' hx)
  have HDv := Lib.hid (fun w' (g : Grew w w') => dvalid_any nm (.slice A n c) ls x w' hnm (hL.grew g) hls hx)
  have HCv := Lib.hid (fun (d : Clm) (h : ValidC x d) w' => cvalid_any nm A n c x d w' h)
  obtain ⟨Av, m, q, rfl, hm, -⟩ := hr.form
  have HM := Lib.hid hm
  have hml : m ≤ 4096 := by omega
  have t4096 : decide (4096 < (m : Int)) = false := by simp; omega
  have t4096' : decide (4096 < m) = false := by simp; omega
  have hbd : Box (w.alloc (.cells (cells12 nm (.slice A n c) x).toArray 27)) w.heap.size 27 (cells12 nm (.slice A n c) x).toArray := Box.new _ _ _
  have hG0 := (Grew.refl w).alloc (.cells (cells12 nm (.slice A n c) x).toArray 27)
  clear hx hr hv hm hL hls hnm
  rw [vdecl_cells]
  rw [vdecl_cells] at HSp HDv HCv
  unfold vc at HCv
  go_enter Tryz.func21, Tryz.ntmps21
  go_upto_region 1 with fail
  generalize w.alloc (.cells (cells12 nm (.slice A n c) x).toArray 27) = w1 at *
  go_wp2_with (refine ldN 27 Tryz.underlying27 rfl (.tmp 2) w.heap.size (cells12 nm (.slice A n c) x) 27 info12 rfl rfl rfl hbd ?_)
  refine (HDv.out w1 hG0).mono ?_
  rintro e w2 ⟨rfl, k2⟩
  have HB2 := Lib.hid (hbd.grew k2)
  have HG2 := Lib.hid (hG0.trans k2)
  clear hbd hG0 k2 HDv
  go_wp2_with fail
  go_loopw [29] (fun i wr => ∃ (j : Nat), j ≤ m ∧ i = .int .i64 (j : Nat) ∧ Box wr w.heap.size 27 (cells12 nm (.slice A n c) x).toArray ∧ Grew w wr) (fun i _ => m - (intOf i).toNat)
  case atStart => exact ⟨0, by omega, rfl, HB2.out, HG2.out⟩
  case round =>
    clear HB2 HG2
    obtain ⟨j, hj, rfl, hB, hG⟩ := hrel
    by_cases hlt : j < m
    · have tt : decide ((j : Int) < (m : Int)) = true := by simpa using hlt
      have hjl : j < cs.length := by rw [← HM.out]; exact hlt
      obtain ⟨g, o, rfl, hgl, hce⟩ := (HR.out.grew (Nat.le_refl _) hG).at_ hjl
      have hvk : ValidC x (cs.getD j zc) := by
        rw [List.getD_eq_getElem?_getD, List.getElem?_eq_getElem hjl]
        exact HV.out _ (List.getElem_mem hjl)
      generalize cs.getD j zc = d at *
      have HC := Lib.hid (HCv.out d hvk)
      have hrg0 : wr.rangeAt g (o + j * 4) (cells4 d) := fun k u hu => by rw [Nat.add_assoc]; exact hce k u hu
      have HB := Lib.hid hB
      have HG := Lib.hid hG
      clear hce hB hG hvk hjl
      have hlt1 := HB.out.lt
      go_wp2_with (first | (refine wpList_load_mid rfl 82 (.tmp 31) rfl g (o + j * 4) rfl (cells4 d) _ hrg0 Tryz.underlying82 rfl info4 ?_) | (refine stN 82 (.tmp 8) (.tmp 32) wr.heap.size (cells4 d) (cells4 zc) 82 info4 rfl (by intro v hv; simp [cells4] at hv; rcases hv with rfl | rfl | rfl | rfl <;> rfl) rfl rfl rfl rfl (Box.new wr 82 (cells4 zc).toArray) ?_; intro w6 bx6 k6 d6; have bd6 := (HB.out.alloc (.cells (cells4 zc).toArray 82)).keep k6 (fun e => by omega)) | (refine ldN 27 Tryz.underlying27 rfl (.tmp 2) w.heap.size (cells12 nm (.slice A n c) x) 27 info12 rfl rfl rfl bd6 ?_) | (refine ldN 82 Tryz.underlying82 rfl (.tmp 8) wr.heap.size (cells4 d) 82 info4 rfl rfl rfl bx6 ?_))
      refine (HC.out w6).mono ?_
      rintro e w7 ⟨rfl, k7⟩
      have HB7 := Lib.hid (bd6.grew k7)
      have HG7 := Lib.hid ((Keeps.then_ ((HG.out).alloc (.cells (cells4 zc).toArray 82)) k6 (fun i hi e => by have := HG.out.size; omega)).grew k7)
      clear bd6 bx6 k6 d6 k7 hrg0 hlt1 HB HG
      go_wp2_with fail
      go_roundw
      case rel => exact ⟨j + 1, by omega, by go_num, HB7.out, HG7.out⟩
      case measure => simp [intOf]; omega
    · have tt : decide ((j : Int) < (m : Int)) = false := by simpa using hlt
      have HB := Lib.hid hB
      have HG := Lib.hid hG
      go_wp2_with (refine ldN 27 Tryz.underlying27 rfl (.tmp 2) w.heap.size (cells12 nm (.slice A n c) x) 27 info12 rfl rfl rfl hB ?_)
      refine (HSp.out wr).mono ?_
      rintro e w8 ⟨rfl, k8⟩
      have hB8 := hB.grew k8
      have hG8 := hG.trans k8
      clear hB hG HB HG k8 HSp HCv
      generalize hNN : spanD x = N at *
      have HNN := Lib.hid hNN
      clear hNN
      obtain ⟨e0, he0⟩ : ∃ e0 : EnvL, e0 = (List.replicate N (x 3), List.replicate N (x 4)) := ⟨_, rfl⟩
      have HE0 := Lib.hid he0
      have HB8 := Lib.hid hB8
      have HG8 := Lib.hid hG8
      clear he0 hB8 hG8
      go_upto_region 13 with fail
      go_cut [10] (fun s10 wx => ∃ h g1 g2 c1 c2, s10 = .pointer (some ⟨h, 0, none⟩) ∧ BnS w wx h g1 g2 w.heap.size N c1 c2 nm A n c x e0)
      case first =>
        have HK := Lib.hid (show ∀ w', Grew w8 w' → w'.cell? ⟨w.heap.size, 5, none⟩ = some (.int .i64 (x 3)) ∧ w'.cell? ⟨w.heap.size, 6, none⟩ = some (.int .i64 (x 4)) from fun w' g => ⟨(HB8.out.grew g).cell 5, (HB8.out.grew g).cell 6⟩)
        have hNb : N ≤ 100000 := by omega
        go_region_held3 (fun w' => w'.cell? ⟨w.heap.size, 5, none⟩ = some (.int .i64 (x 3)) ∧ w'.cell? ⟨w.heap.size, 6, none⟩ = some (.int .i64 (x 4))) (exact HK.out _ (by repeat (first | assumption | exact Grew.refl _ | with_reducible refine Grew.drew ?_ | with_reducible refine Grew.alloc ?_ _ | with_reducible refine Grew.set_ ?_ (by omega) _)))
          (first | (go_at_call 49; (with_reducible refine (rep_at (x 3) _ N _ ?_ ?_ hNb hs1).mono ?_); (next => ((try rw [cell_drew]); (repeat (first | (rw [cell_new _ _ _ _ _ (by first | rfl | (simp; done))]; rfl) | (rw [cell_old _ _ _ _ (by first | omega | (simp; done) | (simp; omega))]))); done)); (next => (first | omega | (simp; done) | (simp; omega))); rintro e wa ⟨g1, c1, rfl, m1, k1⟩; obtain ⟨ec1, -⟩ := bcell k1.below; (try simp at ec1); have EC1 := Lib.hid ec1; clear ec1; have z1 := k1.size; (try simp at z1); have kA : Grew w8 wa := Grew.trans (by repeat (first | assumption | exact Grew.refl _ | with_reducible refine Grew.drew ?_ | with_reducible refine Grew.alloc ?_ _)) k1; have s1 := kA.size; have m1' := m1.base_le (base' := w.heap.size) (HG8.out.trans (by repeat (first | assumption | exact Grew.refl _ | with_reducible refine Grew.drew ?_ | with_reducible refine Grew.alloc ?_ _))).size; (first | (refine have_of (P := Box wa (w8.heap.size) 89 #[.slice none 0 0, .slice none 0 0]) (Box.grew ?_ k1) ?_; (next => ((repeat (first | ((with_reducible refine Box.new_ _ _ _ ?_); first | omega | (simp; done)) | with_reducible refine Box.drew ?_ | with_reducible refine Box.alloc ?_ _)); done)); intro bA) | (refine have_of (P := Box wa (w8.heap.size + 1) 89 #[.slice none 0 0, .slice none 0 0]) (Box.grew ?_ k1) ?_; (next => ((repeat (first | ((with_reducible refine Box.new_ _ _ _ ?_); first | omega | (simp; done)) | with_reducible refine Box.drew ?_ | with_reducible refine Box.alloc ?_ _)); done)); intro bA) | (refine have_of (P := Box wa (w8.heap.size + 1 + 1) 89 #[.slice none 0 0, .slice none 0 0]) (Box.grew ?_ k1) ?_; (next => ((repeat (first | ((with_reducible refine Box.new_ _ _ _ ?_); first | omega | (simp; done)) | with_reducible refine Box.drew ?_ | with_reducible refine Box.alloc ?_ _)); done)); intro bA) | skip)) | (go_at_call 49; (with_reducible refine (rep_at (x 4) _ N _ ?_ ?_ hNb hs1).mono ?_); (next => ((try rw [cell_drew]); (repeat (first | (rw [EC1.out _ _ (by omega)]) | (rw [cell_drew]) | (rw [cell_new _ _ _ _ _ (by first | rfl | (simp; done))]; rfl) | (rw [cell_old _ _ _ _ (by first | omega | (simp; done) | (simp; omega))]))); done)); (next => (first | omega | (simp; done) | (simp; omega))); rintro e wb ⟨g2, c2, rfl, m2, k2⟩; have z2 := k2.size; (try simp at z2); have kB : Grew w8 wb := Grew.trans (by repeat (first | assumption | exact Grew.refl _ | with_reducible refine Grew.drew ?_ | with_reducible refine Grew.alloc ?_ _)) k2; have kab : Grew wa wb := Grew.trans (by repeat (first | assumption | exact Grew.refl _ | with_reducible refine Grew.drew ?_ | with_reducible refine Grew.alloc ?_ _)) k2; have s2 := kB.size; have m2' := m2.base_le (base' := w.heap.size) (HG8.out.trans (by repeat (first | assumption | exact Grew.refl _ | with_reducible refine Grew.drew ?_ | with_reducible refine Grew.alloc ?_ _))).size; have ne : g1 ≠ g2 := (by have h1 := (m1'.lt g1 rfl).2; have h2 := (m2.lt g2 rfl).1; (try simp at h2); omega); (first | (have bB : Box wb (w8.heap.size) 89 #[.slice none 0 0, .slice none 0 0] := bA.grew kab; have cB0 : wb.cell? ⟨w8.heap.size, 0, none⟩ = some (.slice none 0 0) := bB.cell 0; have cB1 : wb.cell? ⟨w8.heap.size, 1, none⟩ = some (.slice none 0 0) := bB.cell 1; have fB0 := bB.frozen 0; have fB1 := bB.frozen 1) | (have bB : Box wb (w8.heap.size + 1) 89 #[.slice none 0 0, .slice none 0 0] := bA.grew kab; have cB0 : wb.cell? ⟨w8.heap.size + 1, 0, none⟩ = some (.slice none 0 0) := bB.cell 0; have cB1 : wb.cell? ⟨w8.heap.size + 1, 1, none⟩ = some (.slice none 0 0) := bB.cell 1; have fB0 := bB.frozen 0; have fB1 := bB.frozen 1) | (have bB : Box wb (w8.heap.size + 1 + 1) 89 #[.slice none 0 0, .slice none 0 0] := bA.grew kab; have cB0 : wb.cell? ⟨w8.heap.size + 1 + 1, 0, none⟩ = some (.slice none 0 0) := bB.cell 0; have cB1 : wb.cell? ⟨w8.heap.size + 1 + 1, 1, none⟩ = some (.slice none 0 0) := bB.cell 1; have cC0 : wb.cell? ⟨w8.heap.size + 2, 0, none⟩ = some (.slice none 0 0) := bB.cell 0; have cC1 : wb.cell? ⟨w8.heap.size + 2, 1, none⟩ = some (.slice none 0 0) := bB.cell 1; have fC0 : wb.frozen? ⟨w8.heap.size + 2, 0, none⟩ = false := bB.frozen 0; have fC1 : wb.frozen? ⟨w8.heap.size + 2, 1, none⟩ = false := bB.frozen 1; have fB0 := bB.frozen 0; have fB1 := bB.frozen 1) | (refine have_of (P := Box wb (wa.heap.size) 89 #[.slice none 0 0, .slice none 0 0]) (Box.grew ?_ k2) ?_; (next => ((repeat (first | ((with_reducible refine Box.new_ _ _ _ ?_); first | omega | (simp; done)) | with_reducible refine Box.drew ?_ | with_reducible refine Box.alloc ?_ _)); done)); intro bB; have cB0 : wb.cell? ⟨wa.heap.size, 0, none⟩ = some (.slice none 0 0) := bB.cell 0; have cB1 : wb.cell? ⟨wa.heap.size, 1, none⟩ = some (.slice none 0 0) := bB.cell 1; have fB0 := bB.frozen 0; have fB1 := bB.frozen 1) | (refine have_of (P := Box wb (wa.heap.size + 1) 89 #[.slice none 0 0, .slice none 0 0]) (Box.grew ?_ k2) ?_; (next => ((repeat (first | ((with_reducible refine Box.new_ _ _ _ ?_); first | omega | (simp; done)) | with_reducible refine Box.drew ?_ | with_reducible refine Box.alloc ?_ _)); done)); intro bB; have cB0 : wb.cell? ⟨wa.heap.size + 1, 0, none⟩ = some (.slice none 0 0) := bB.cell 0; have cB1 : wb.cell? ⟨wa.heap.size + 1, 1, none⟩ = some (.slice none 0 0) := bB.cell 1; have fB0 := bB.frozen 0; have fB1 := bB.frozen 1) | skip)) | fail)
        all_goals
          have m1e : Mine wb w.heap.size 3 (.slice (some ⟨g1, 0, none⟩) N c1) (e0.1.map vi) := by rw [HE0.out]; exact m1'.grew kab
          have m2e : Mine wb w.heap.size 3 (.slice (some ⟨g2, 0, none⟩) N c2) (e0.2.map vi) := by rw [HE0.out]; exact m2'
          have s8 := HG8.out.size
          go_wp2_with fail
          go_meet
          first
            | exact ⟨_, g1, g2, c1, c2, rfl, bns_alloc m1e m2e ne (HB8.out.grew kB) (HG8.out.trans kB)⟩
            | exact ⟨_, g1, g2, c1, c2, rfl, bns_store m1e m2e ne (HB8.out.grew kB) bB (HG8.out.trans kB) (by omega)⟩
      case rest =>
        obtain ⟨h, g1, g2, c1, c2, rfl, hS0⟩ := hcut
        have HS0 := Lib.hid hS0
        clear hS0 HB8 HG8
        go_wp2_with fail
        go_loopw [53] (fun i wr => ∃ (k : Nat) (e : EnvL), k ≤ m ∧ i = .int .i64 k ∧ e = takeIn (x 7) (cs.take k) e0 ∧ BnS w wr h g1 g2 w.heap.size N c1 c2 nm A n c x e) (fun i _ => m - (intOf i).toNat)
        case atStart => exact ⟨0, e0, by omega, rfl, rfl, HS0.out⟩
        case round =>
          clear HS0
          obtain ⟨k, e, hk, rfl, he, hS⟩ := hrel
          by_cases hlt : k < m
          · have tt : decide ((k : Int) < (m : Int)) = true := by simpa using hlt
            have hkl : k < cs.length := by rw [← HM.out]; exact hlt
            obtain ⟨g, o, rfl, hgl, hce⟩ := (HR.out.grew (Nat.le_refl _) hS.grew).at_ hkl
            have hvk : ValidC x (cs.getD k zc) := by
              rw [List.getD_eq_getElem?_getD, List.getElem?_eq_getElem hkl]
              exact HV.out _ (List.getElem_mem hkl)
            have HTk := Lib.hid (takeIn_snoc (x 7) cs k e0 hkl)
            rw [← he] at HTk
            generalize cs.getD k zc = d at *
            have hrg0 : wr.rangeAt g (o + k * 4) (cells4 d) := fun j u hu => by rw [Nat.add_assoc]; exact hce j u hu
            obtain ⟨v1, v2, v3, v4, v5, v6⟩ := hvk
            have y7 := HX.out.first
            have y8 := HX.out.last2
            have hNx : d.2.1 - x 7 < (N : Int) := by have := HSE.out; omega
            have HSk := Lib.hid hS
            have hgs := hS.grew.size
            clear hce hkl he hS
            go_upto_region 17 with (first | (refine wpList_load_mid rfl 82 (.tmp 55) rfl g (o + k * 4) rfl (cells4 d) _ hrg0 Tryz.underlying82 rfl info4 ?_) | (refine stN 82 (.tmp 12) (.tmp 56) wr.heap.size (cells4 d) (cells4 zc) 82 info4 rfl (by intro v hv; simp [cells4] at hv; rcases hv with rfl | rfl | rfl | rfl <;> rfl) rfl rfl rfl rfl (Box.new wr 82 (cells4 zc).toArray) ?_; intro w6 bx6 k6 d6))
            have k56 : Grew wr w6 := Keeps.then_ ((Grew.refl wr).alloc _) k6 (fun i hi e => by omega)
            have hS6 := HSk.out.more k56
            obtain ⟨a, ha⟩ : ∃ a : Nat, (a : Int) = d.1 - x 7 := ⟨(d.1 - x 7).toNat, by omega⟩
            obtain ⟨L, hL⟩ : ∃ L : Nat, (L : Int) = d.2.1 - d.1 + 1 := ⟨(d.2.1 - d.1 + 1).toNat, by omega⟩
            have hAp : applyC (x 7) e d = (List.range' a L).foldl (stepC d) e := by
              unfold applyC ticks
              rw [show (d.1 - x 7).toNat = a by omega, show (d.2.1 - d.1 + 1).toNat = L by omega]
            have HAp := Lib.hid hAp
            obtain ⟨f0, f1, f2, f3⟩ := bx6.four
            obtain ⟨n3, n4, n5, n6, n7, n8⟩ := dnums hS6.dbox
            have HS6 := Lib.hid hS6
            have HB6 := Lib.hid bx6
            have HA := Lib.hid ha
            have HL := Lib.hid hL
            have a0 : (0 : Int) ≤ (a : Int) := by omega
            have b1 : (a : Int) + (L : Int) = d.2.1 - x 7 + 1 := by omega
            have HBB := Lib.hid b1
            generalize hq5 : wr.heap.size = q5 at *
            clear hAp hS6 bx6 k6 d6 k56 hrg0 HSk b1 hq5 n3 n4 n5 n6 n8
            go_wp2_with fail
            go_loopw [13] (fun i w' => ∃ (t : Nat) (z : Int), z = (t : Int) ∧ a ≤ t ∧ t ≤ a + L ∧ i = .int .i64 z ∧ BnS w w' h g1 g2 w.heap.size N c1 c2 nm A n c x ((List.range' a (t - a)).foldl (stepC d) e) ∧ Box w' q5 82 (cells4 d).toArray) (fun i _ => a + L - (intOf i).toNat)
            case atStart => exact ⟨a, d.1 - x 7, HA.out.symm, by omega, by omega, rfl, by simpa using HS6.out, HB6.out⟩
            case round =>
              clear HS6 HB6 f0 f1 f2 f3 n7
              obtain ⟨t, z, hz, ht1, ht2, rfl, hT, hB⟩ := hrel
              obtain ⟨f0, f1, f2, f3⟩ := hB.four
              obtain ⟨n3, n4, n5, n6, n7, n8⟩ := dnums hT.dbox
              by_cases hlt2 : t < a + L
              · obtain rfl : z = (t : Int) := hz
                have tt2 : decide ((t : Int) ≤ d.2.1 - x 7) = true := by
                  have := HBB.out
                  simp; omega
                have htN : t < N := by have := HBB.out; omega
                have hl1 := hT.len
                obtain ⟨q1, z1⟩ := hT.lo.int_cell (k := t) (by rw [hl1.1]; exact htN)
                have a1 : wr.cell? ⟨h, 0, none⟩ = some (.slice (some ⟨g1, 0, none⟩) N c1) := hT.arr.cell 0
                have a2 : wr.cell? ⟨h, 1, none⟩ = some (.slice (some ⟨g2, 0, none⟩) N c2) := hT.arr.cell 1
                have i1 : (0 : Int) ≤ (t : Int) := by omega
                have i2 : (t : Int) < (N : Int) := by omega
                have HT := Lib.hid hT
                have HB := Lib.hid hB
                have HL1 := Lib.hid hl1
                clear hT hB hl1
                obtain ⟨E, hEE⟩ : ∃ E, (List.range' a (t - a)).foldl (stepC d) e = E := ⟨_, rfl⟩
                have HEE := Lib.hid hEE
                rw [hEE] at HT q1 HL1
                obtain ⟨p1, hp1⟩ : ∃ p1, E.1.getD t 0 = p1 := ⟨_, rfl⟩
                obtain ⟨p2, hp2⟩ : ∃ p2, E.2.getD t 0 = p2 := ⟨_, rfl⟩
                have HP1 := Lib.hid hp1
                have HP2 := Lib.hid hp2
                rw [hp1] at q1
                clear hEE hp1 hp2
                go_upto_region 20 with fail
                refine wp_region_still_tail 12 (by kernel_rfl) (by kernel_rfl) ?_
                simp only [List.take_succ_cons, List.take_zero, List.drop_succ_cons, List.drop_zero]
                repeat still_step
                refine wpStill_nil ?_
                change wpList _ _ _ _ _ wr.drew
                go_upto_region 21 with (refine st_row (.tmp 82) (.tmp 81) t (if p1 < d.2.2.1 then d.2.2.1 else p1) rfl rfl rfl rfl (Mine.drew HT.out.lo) (by rw [List.length_map, HL1.out.1]; exact htN) ?_; intro w6 hM6 hk6)
                have hS6 := (HT.out.more (Keeps.drew (Grew.refl wr))).stLo hM6 hk6
                have hB6 := (HB.out.drew).keep hk6 (fun e => (HT.out.lo.ne_box rfl HB.out (by decide)) e.symm)
                clear f0 f1 f2 f3 n3 n4 n5 n6 n7 n8 q1 z1 a1 a2 hM6 hk6
                obtain ⟨f0, f1, f2, f3⟩ := hB6.four
                obtain ⟨q2, z2⟩ := hS6.hi.int_cell (k := t) (by rw [hS6.len.2]; exact htN)
                rw [HP2.out] at q2
                have a2 : w6.cell? ⟨h, 1, none⟩ = some (.slice (some ⟨g2, 0, none⟩) N c2) := hS6.arr.cell 1
                have HS6 := Lib.hid hS6
                have HB6 := Lib.hid hB6
                clear hS6 hB6 HT HB
                refine wp_region_still_tail 12 (by kernel_rfl) (by kernel_rfl) ?_
                simp only [List.take_succ_cons, List.take_zero, List.drop_succ_cons, List.drop_zero]
                repeat still_step
                refine wpStill_nil ?_
                change wpList _ _ _ _ _ w6.drew
                go_wp2_with (refine st_row (.tmp 94) (.tmp 93) t (if d.2.2.2 < p2 then d.2.2.2 else p2) rfl rfl rfl rfl (Mine.drew HS6.out.hi) (by rw [List.length_map, HL1.out.2]; exact htN) ?_; intro w7 hM7 hk7; have HS7 := Lib.hid ((HS6.out.more (Keeps.drew (Grew.refl w6))).stHi hM7 hk7); have HB7 := Lib.hid ((HB6.out.drew).keep hk7 (fun e => (HS6.out.hi.ne_box rfl HB6.out (by decide)) e.symm)); clear hM7 hk7 q2 z2 a2 f0 f1 f2 f3 HS6 HB6)
                go_roundw
                case rel =>
                  refine ⟨t + 1, (t : Int) + 1, by omega, by omega, by omega, rfl, ?_, HB7.out⟩
                  rw [range'_snoc a t ht1, List.foldl_append, HEE.out]
                  have := HS7.out
                  rw [max_if, min_if, ← HP1.out, ← HP2.out] at this
                  exact this
                case measure => simp [intOf]; omega
              · have tt2 : decide (z ≤ d.2.1 - x 7) = false := by
                  have := HBB.out
                  simp; omega
                have htt : t = a + L := by omega
                have hT' := hT
                rw [htt, show a + L - a = L by omega, ← HAp.out, ← HTk.out] at hT'
                have HT := Lib.hid hT'
                clear hT hT' hz ht1 ht2 hlt2 htt
                go_wp2_with fail
                go_roundw
                case rel => exact ⟨k + 1, _, by omega, by go_num, rfl, HT.out⟩
                case measure => simp [intOf]; omega
          · have tt : decide ((k : Int) < (m : Int)) = false := by simpa using hlt
            have he' := he
            rw [List.take_of_length_le (by rw [← HM.out]; omega)] at he'
            have HBE := Lib.hid (show bandE x N cs = e from by unfold bandE; rw [he', HE0.out])
            have HS := Lib.hid hS
            clear he he' hS hk
            go_wp2_with fail
            go_loopw [14, 97] (fun b i wr => ∃ (r md : Nat) (C : Option Addr) (q9 : Nat) (ds : List Clm), r ≤ N ∧ i = .int .i64 r ∧ b = .slice C md q9 ∧ md = ds.length ∧ md ≤ r ∧ MineC wr w.heap.size (.slice C md q9) ds ∧ (∀ j, j < r → ¬ e.2.getD j 0 < e.1.getD j 0) ∧ BnS w wr h g1 g2 w.heap.size N c1 c2 nm A n c x e) (fun _ i _ => N - (intOf i).toNat)
            case atStart => exact ⟨0, 0, none, 0, [], by omega, rfl, rfl, rfl, by omega, MineC.nil _ _, fun j hj => by omega, HS.out⟩
            case round =>
              clear HS
              obtain ⟨r, md, C, q9, ds, hr, rfl, rfl, hmd, hmr, hM, hall, hS⟩ := hrel
              have HMd := Lib.hid hmd
              have HAll := Lib.hid hall
              by_cases hlt2 : r < N
              · have tt2 : decide ((r : Int) < (N : Int)) = true := by simpa using hlt2
                have hl1 := hS.len
                obtain ⟨q1, -⟩ := hS.lo.int_cell (k := r) (by rw [hl1.1]; exact hlt2)
                obtain ⟨q2, -⟩ := hS.hi.int_cell (k := r) (by rw [hl1.2]; exact hlt2)
                have a1 : wr.cell? ⟨h, 0, none⟩ = some (.slice (some ⟨g1, 0, none⟩) N c1) := hS.arr.cell 0
                have a2 : wr.cell? ⟨h, 1, none⟩ = some (.slice (some ⟨g2, 0, none⟩) N c2) := hS.arr.cell 1
                have i1 : (0 : Int) ≤ (r : Int) := by omega
                have i2 : (r : Int) < (N : Int) := by omega
                have HL1 := Lib.hid hl1
                have HS := Lib.hid hS
                have HMM := Lib.hid hM
                obtain ⟨p1, hp1⟩ : ∃ p1, e.1.getD r 0 = p1 := ⟨_, rfl⟩
                obtain ⟨p2, hp2⟩ : ∃ p2, e.2.getD r 0 = p2 := ⟨_, rfl⟩
                have HP1 := Lib.hid hp1
                have HP2 := Lib.hid hp2
                rw [hp1] at q1
                rw [hp2] at q2
                clear hp1 hp2 hl1 hS hM hmd hall
                go_upto_region 27 with fail
                go_quiet (fail)
                have hz : Grew wr (wr.drewN nq) := Keeps.drewN (Grew.refl wr) nq
                have hS5 := HS.out.more hz
                have hM5 := HMM.out.grew hz
                generalize wr.drewN nq = w5 at *
                have HS5 := Lib.hid hS5
                have HM5 := Lib.hid hM5
                clear hz HS HMM q1 q2 a1 a2
                by_cases hx : p2 < p1
                · have HC := Lib.hid (crossB_yes (lo := e.1) (hi := e.2) (j := r) (by rw [HL1.out.1]; exact hlt2) (by rw [HL1.out.2]; exact hlt2) (by rw [HP1.out, HP2.out]; exact hx))
                  have tx : decide (p2 < p1) = true := by simpa using hx
                  clear hS5 hM5 hx
                  go_wp2_with fail
                  go_ret2
                  rw [bErr_yes HBE.out HC.out]
                  exact ⟨.slice none 0 0, rfl, HS5.out.grew⟩
                · have tx : decide (p2 < p1) = false := by simpa using hx
                  have HAll2 := Lib.hid (show ∀ j, j < r + 1 → ¬ e.2.getD j 0 < e.1.getD j 0 from fun j hj => by
                    rcases Nat.lt_or_ge j r with h1 | h1
                    · exact HAll.out j h1
                    · obtain rfl : j = r := by omega
                      rw [HP1.out, HP2.out]; exact hx)
                  have hn5 : ds.length < 1099511627776 := by rw [← HMd.out]; omega
                  have hbs := hS5.grew.size
                  have r1 : x 7 + (r : Int) ≤ 2000000 := by have := HX.out.last2; have := HSE.out; omega
                  have r2 : 0 ≤ x 7 + (r : Int) := by have := HX.out.first; omega
                  obtain ⟨n3, n4, n5, n6, n7, n8⟩ := dnums hS5.dbox
                  clear hx hS5
                  clear n3 n4 n5 n6 n8
                  rcases Nat.eq_zero_or_pos md with h0 | h0
                  · have u0 : decide (0 < md) = false := by simp; omega
                    have u1 : decide ((0 : Int) < (md : Int)) = false := by simp; omega
                    clear h0 hM5
                    go_wp2_with (at_builtin; refine app_oneC rfl (.tmp 146) (.tmp 158) rfl rfl (HM5.out.alloc _) w5.heap.size 1 ((x 7 + (r : Int), x 7 + (r : Int), p1, p2) : Clm) 82 rfl (Nat.le_refl _) (Box.new w5 82 _) hn5 (by simp; omega) ?_; intro r6 cap6 w6 hM6 hk6 hr6 hbr6 hlr6; have hg5 := (Grew.refl w5).alloc (.cells (cells4 (x 7 + (r : Int), x 7 + (r : Int), p1, p2)).toArray 82); have HS6 := Lib.hid ((HS5.out.more hg5).keepC (HM5.out.grew hg5) hk6 ((HS5.out.more hg5).apart (HM5.out.grew hg5))); rw [← HMd.out] at hM6 ⊢; have HM6 := Lib.hid hM6; clear hM6 hk6 hr6 hbr6 hlr6 hg5 n7)
                    go_roundw
                    case rel => exact ⟨r + 1, md + 1, _, cap6, ds ++ [_], by omega, by go_num, rfl, by rw [List.length_append, HMd.out]; rfl, by omega, HM6.out, HAll2.out, HS6.out⟩
                    case measure => simp [intOf]; omega
                  · obtain ⟨m1, hm1⟩ : ∃ m1, md = m1 + 1 := ⟨md - 1, by omega⟩
                    obtain ⟨rr, cap, cur, hC⟩ : ∃ rr cap, ∃ cur : Array Value, C = some ⟨rr, 0, none⟩ ∧ Box w5 rr 82 cur ∧ (∀ j < ds.length * 4, cur[j]? = (flat ds)[j]?) := by
                      rcases hM5.form with ⟨hh, h1⟩ | ⟨g', cap, cur, hv, -, hb, h3, h4, h5, h6⟩
                      · have := HMd.out; rw [h1] at this; simp at this; omega
                      · injection hv with hv
                        exact ⟨g', cap, cur, hv, hb, fun j hj => by rw [← h6, List.getElem?_take, if_pos hj, Array.getElem?_toList]⟩
                    obtain ⟨rfl, hbx, hcur⟩ := hC
                    have hml2 : m1 < ds.length := by rw [← HMd.out]; omega
                    obtain ⟨d9, hd9⟩ : ∃ d9, ds.getD m1 zc = d9 := ⟨_, rfl⟩
                    have hcl : ∀ j u, (cells4 d9)[j]? = some u → w5.cell? ⟨rr, m1 * 4 + j, none⟩ = some u := fun j u hu => by
                      have hj : j < 4 := by simpa [cells4] using (List.getElem?_eq_some_iff.1 hu).1
                      rw [hbx.cell, hcur _ (by omega), flat_at hml2 hj, hd9]; exact hu
                    have l1 := hcl 1 _ rfl
                    have l2 := hcl 2 _ rfl
                    have l3 := hcl 3 _ rfl
                    have fr : w5.frozen? ⟨rr, m1 * 4 + 1, none⟩ = false := hbx.frozen _
                    have u0 : decide (0 < md) = true := by simp; omega
                    have u1 : decide ((0 : Int) < (md : Int)) = true := by simp; omega
                    have j1 : (1 : Int) ≤ (md : Int) := by omega
                    have j0 : (0 : Int) ≤ (md : Int) - 1 := by omega
                    have j2 : (md : Int) - 1 < (md : Int) := by omega
                    have jn : ((md : Int) - 1).toNat = m1 := by omega
                    have HM1 := Lib.hid hm1
                    have HML2 := Lib.hid hml2
                    clear hm1 hcl hcur hbx hd9 h0 hml2
                    go_wp2_with (at_builtin; refine app_oneC rfl (.tmp 146) (.tmp 158) rfl rfl (HM5.out.alloc _) w5.heap.size 1 ((x 7 + (r : Int), x 7 + (r : Int), p1, p2) : Clm) 82 rfl (Nat.le_refl _) (Box.new w5 82 _) hn5 (by simp; omega) ?_; intro r6 cap6 w6 hM6 hk6 hr6 hbr6 hlr6; have hg5 := (Grew.refl w5).alloc (.cells (cells4 (x 7 + (r : Int), x 7 + (r : Int), p1, p2)).toArray 82); have HS6 := Lib.hid ((HS5.out.more hg5).keepC (HM5.out.grew hg5) hk6 ((HS5.out.more hg5).apart (HM5.out.grew hg5))); rw [← HMd.out] at hM6 ⊢; have HM6 := Lib.hid hM6; clear hM6 hk6 hr6 hbr6 hlr6 hg5 n7)
                    · go_roundw
                      case rel => exact ⟨r + 1, md, _, q9, _, by omega, by go_num, rfl, by rw [List.length_set]; exact HMd.out, by omega, HM5.out.setTo HML2.out _, HAll2.out, HS5.out.keepC HM5.out (Keeps.setCell (S := fun i => (Value.slice (some ⟨rr, 0, none⟩) md q9).ownBlock = some i) (p := ⟨rr, m1 * 4 + 1, none⟩) (Keeps.refl _ w5) (.inl rfl) _) (HS5.out.apart HM5.out)⟩
                      case measure => simp [intOf]; omega
                    · go_roundw
                      case rel => exact ⟨r + 1, md + 1, _, cap6, ds ++ [_], by omega, by go_num, rfl, by rw [List.length_append, HMd.out]; rfl, by omega, HM6.out, HAll2.out, HS6.out⟩
                      case measure => simp [intOf]; omega
                    · go_roundw
                      case rel => exact ⟨r + 1, md + 1, _, cap6, ds ++ [_], by omega, by go_num, rfl, by rw [List.length_append, HMd.out]; rfl, by omega, HM6.out, HAll2.out, HS6.out⟩
                      case measure => simp [intOf]; omega
              · have tt2 : decide ((r : Int) < (N : Int)) = false := by simpa using hlt2
                have HC := Lib.hid (crossB_no (lo := e.1) (hi := e.2) (fun j h1 _ => HAll.out j (by rw [hS.len.1] at h1; omega)))
                have HG := Lib.hid hS.grew
                clear hS hM hall hmd
                go_wp2_with fail
                go_ret2
                rw [bErr_no HBE.out HC.out]
                exact ⟨.slice C md q9, rfl, HG.out⟩
end Go.Proofs.YtgkmfblmkfclbaaGreatDoor
