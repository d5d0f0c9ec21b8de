/- The law CodecEnvelope, walked: it returns true and leaves what was there. -/
import Derived.Test.YtggnifejlheebaaDoorCodecEnvelopeP35
import Derived.Test.YtggnifejlheebaaDoorCodecEnvelopeP38
import Derived.Test.YtggnifejlheebaaDoorCodecEnvelopeP39
import Derived.Test.YtggnifejlheebaaDoorCodecEnvelopeP40
import Derived.Test.YtggnifejlheebaaDoorCodecEnvelopeP14
namespace Go.Proofs.YtggnifejlheebaaDoor
open Go.RowKit Pl

theorem pack_cbits_len' (l : List Clm) (h : l.length ≤ 4096) : (pack (cbits l)).length ≤ 200000 := by
  have := cbits_length l
  rw [pack_length]; omega
set_option maxHeartbeats 6400000 in
set_option maxRecDepth 100000 in
theorem codecEnvelope_walk (v0 v1 v2 : Value) (l m k : List Int) (wild : Bool) (w : World) (h0 : Rd w w.heap.size v0 (l.map vi)) (i0 : ∀ x ∈ l, I64 x) (n0 : l.length ≤ 1000000000000000) (h1 : Rd w w.heap.size v1 (m.map vi)) (i1 : ∀ x ∈ m, I64 x) (n1 : m.length ≤ 1000000000000000) (h2 : Rd w w.heap.size v2 (k.map vi)) (i2 : ∀ x ∈ k, I64 x) (n2 : k.length ≤ 1000000000000000) (ht : Tab w w.heap.size) :
    Calls Tryd.prog 3 #[v0, v1, v2, .bool wild] w fun e w' => e = .returned (.bool true) ∧ Grew w w' := by
  have HD := Lib.hid (decl_any v0 l w h0 i0 n0)
  have hgd := declK_good (pickV l 0 10) (pickV l 1 5) (pickV l 2 7) (pickV l 5 17) (pickV l 6 4) (pickV l 7 14) (pickV l 8 40) (pickV_lt _ _ _ (by omega)) (pickV_lt _ _ _ (by omega)) (pickV_lt _ _ _ (by omega)) (pickV_lt _ _ _ (by omega)) (pickV_lt _ _ _ (by omega)) (pickV_lt _ _ _ (by omega)) (pickV_lt _ _ _ (by omega))
  have htn := declK_tiny (pickV l 0 10) (pickV l 1 5) (pickV l 2 7) (pickV l 5 17) (pickV l 6 4) (pickV l 7 14) (pickV l 8 40) (pickV_lt _ _ _ (by omega)) (pickV_lt _ _ _ (by omega)) (pickV_lt _ _ _ (by omega)) (pickV_lt _ _ _ (by omega)) (pickV_lt _ _ _ (by omega)) (pickV_lt _ _ _ (by omega))
  have hnm := nameOf_low (pickV l 3 2)
  generalize declK (pickV l 0 10) (pickV l 1 5) (pickV l 2 7) (pickV l 5 17) (pickV l 6 4) (pickV l 7 14) (pickV l 8 40) = x at *
  generalize nameOf (pickV l 3 2) = nm at *
  have HGd := Lib.hid hgd
  have HTn := Lib.hid htn
  have HNm := Lib.hid hnm
  have H1 := Lib.hid (fun w' (g : Grew w w') => (h1.grew (Nat.le_refl _) g).more g.size)
  have H2 := Lib.hid (fun w' (g : Grew w w') => (h2.grew (Nat.le_refl _) g).more g.size)
  have I1 := Lib.hid i1
  have I2 := Lib.hid i2
  have HT := Lib.hid ht
  clear h0 i0 h1 i1 h2 i2 ht hgd htn hnm
  go_enter Tryd.func3, Tryd.ntmps3
  go_wp2_with fail
  refine HD.out.mono ?_
  rintro e w1 ⟨vl, ls, rfl, hL, hls, k1⟩
  obtain ⟨A, c, rfl⟩ := hL.slc
  have HL := Lib.hid (fun w' (g : Grew w1 w') => hL.grew g)
  have HLs := Lib.hid (lab4_good hls)
  have HK1 := Lib.hid k1
  generalize ls.length = n at *
  rw [vdecl_cells]
  clear hL hls HD k1
  go_upto_region 2 with (refine stN 27 (.tmp 9) (.tmp 20) w1.heap.size (cells12 nm (.slice A n c) x) (cells12 ⟨#[]⟩ (.slice none 0 0) (fun _ => 0)) 27 info12 rfl (by intro v hv; simp [cells12] at hv; rcases hv with rfl | rfl | rfl | rfl | rfl | rfl | rfl | rfl | rfl | rfl | rfl | rfl <;> rfl) rfl rfl rfl rfl (Box.new w1 27 (cells12 ⟨#[]⟩ (.slice none 0 0) (fun _ => 0)).toArray) ?_; intro w2 bx2 k2 d2)
  have g12 : Grew w1 w2 := Keeps.then_ ((Grew.refl w1).alloc _) k2 (fun i hi e => by omega)
  have G2 := HK1.out.trans g12
  clear k2 d2
  have HS := Lib.hid (some_any nm A n c x v1 v2 m k wild w2 HTn.out (H1.out w2 G2) I1.out n1 (H2.out w2 G2) I2.out n2)
  rw [vdecl_cells] at HS
  obtain ⟨A1, p1, q1, rfl, -, -⟩ := (H1.out w2 G2).form
  obtain ⟨A2, p2, q2, rfl, -, -⟩ := (H2.out w2 G2).form
  generalize hgg : w1.heap.size = gd at *
  clear hgg
  go_wp2_with (refine ldN 27 Tryd.underlying27 rfl (.tmp 9) gd (cells12 nm (.slice A n c) x) 27 info12 rfl rfl rfl bx2 ?_)
  refine HS.out.mono ?_
  rintro e w3 ⟨v3, cs, rfl, m3, hF, hl5, k3⟩
  have bx3 := bx2.grew k3
  have g13 := g12.trans k3
  have G3 := G2.trans k3
  have HF := Lib.hid hF
  clear HS bx2 g12 k3 hF G2
  obtain ⟨A3, p3, q3, rfl, hp3, -⟩ := m3.slice
  have HP3 := Lib.hid hp3
  clear hp3
  have HSo := Lib.hid (csort_any (.slice A3 p3 q3) cs w3 m3.rd (by omega))
  go_wp2_with fail
  refine HSo.out.mono ?_
  rintro e w4 ⟨v4, ds, rfl, hpm, m4, k4⟩
  have bx4 := bx3.grew k4
  have g14 := g13.trans k4
  have G4 := G3.trans k4
  have c4 := m3.grew k4
  have HPm := Lib.hid hpm
  have hdl : ds.length ≤ 5 := by rw [hpm.length_eq]; exact hl5
  have HOk := Lib.hid (show ∀ c ∈ ds, okC c from fun c hc => HF.out.2 c (hpm.mem_iff.1 hc))
  have HVd := Lib.hid (show ∀ c ∈ ds, ValidC x c from fun c hc => HF.out.1 c (hpm.mem_iff.1 hc))
  clear HSo bx3 g13 G3 m3 k4 hpm
  have HE := Lib.hid (encode_any v4 ds w4 m4.rd (by omega) (HT.out.on G4))
  obtain ⟨A4, p4, q4, rfl, -, -⟩ := m4.slice
  go_wp2_with fail
  refine HE.out.mono ?_
  rintro e w5 ⟨k5, ⟨-, v5, rfl, m5⟩ | ⟨p2, -⟩⟩
  rotate_left
  · exact absurd (encE_ok (by omega) HOk.out) p2
  have bx5 := bx4.grew k5
  have g15 := g14.trans k5
  have G5 := G4.trans k5
  have c5 := c4.grew k5
  have hpl := pack_cbits_len' ds (by omega)
  clear HE bx4 g14 G4 c4 m4 k5
  have HDc := Lib.hid (decode_any v5 (pack (cbits ds)) w5 m5.rd (pack_bytes _) (by omega) (HT.out.on G5))
  rw [decode_enc ds HOk.out (by omega)] at HDc
  obtain ⟨A5, p5, q5, rfl, -⟩ := m5.slice
  go_wp2_with fail
  refine HDc.out.mono ?_
  rintro e w6 ⟨k6, v6, rfl, m6⟩
  have bx6 := bx5.grew k6
  have g16 := g15.trans k6
  have G6 := G5.trans k6
  have c6 := c5.grew k6
  clear HDc bx5 g15 G5 c5 m5 k6
  have HN1 := Lib.hid (new_any nm A n c ls x (.slice A3 p3 q3) cs w6 HNm.out (HL.out w6 g16) HLs.out HGd.out c6.rd HF.out.1 (by omega))
  rw [vdecl_cells] at HN1
  obtain ⟨A6, p6, q6, rfl, hp6, -⟩ := m6.slice
  have hpp : p6 = p3 := by rw [hp6, HP3.out, HPm.out.length_eq]
  subst hpp
  clear hp6
  go_wp2_with (refine ldN 27 Tryd.underlying27 rfl (.tmp 9) gd (cells12 nm (.slice A n c) x) 27 info12 rfl rfl rfl bx6 ?_)
  refine HN1.out.mono ?_
  intro e w7 hN7
  have HM6 := Lib.hid (fun w' (g : Grew w6 w') => m6.grew g)
  have hcp := clashB_perm x (spanD x) HPm.out
  have hbp := boundE_perm x (spanD x) HPm.out
  have HBl := Lib.hid (boundE_len x (spanD x) cs)
  have hsN := (spanD_le HGd.out).2
  rcases hN7 with ⟨hc, rfl, k7⟩ | ⟨hc, B, p, C, q, rfl, m71, m72, k7⟩
  · rw [hc] at hcp
    have HCp := Lib.hid hcp
    have bx7 := bx6.grew k7
    have g17 := g16.trans k7
    have G7 := G6.trans k7
    have g67 := k7
    clear hc hcp hbp bx6 g16 G6 HN1 m6 c6 k7
    unfold venv cells3
    go_upto_region 6 with fail
    have ga := (Grew.refl w7).alloc (.cells #[.int .i64 0, .slice none 0 0, .slice none 0 0] 39)
    have bx8 := bx7.grew ga
    have g18 := g17.trans ga
    have G8 := G7.trans ga
    have g68 := g67.trans ga
    generalize w7.alloc (.cells #[.int .i64 0, .slice none 0 0, .slice none 0 0] 39) = w8 at *
    clear bx7 g17 G7 g67 ga
    have HN2 := Lib.hid (new_any nm A n c ls x (.slice A6 p6 q6) ds w8 HNm.out (HL.out w8 g18) HLs.out HGd.out (HM6.out w8 g68).rd HVd.out (by omega))
    rw [vdecl_cells] at HN2
    go_wp2_with (refine ldN 27 Tryd.underlying27 rfl (.tmp 9) gd (cells12 nm (.slice A n c) x) 27 info12 rfl rfl rfl bx8 ?_)
    refine HN2.out.mono ?_
    intro e w9 hN9
    rcases hN9 with ⟨hc9, rfl, k9⟩ | ⟨hc9, -⟩
    rotate_left
    · rw [HCp.out] at hc9; cases hc9
    have G9 := G8.trans k9
    have HG9 := Lib.hid (fun w' (g : Grew w9 w') => G9.trans g)
    have HLv := Lib.hid (fun w' (g : Grew w9 w') => lives_any w' (HT.out.on (G9.trans g)))
    clear hc9 HN2 bx8 g18 G8 g68 G9 k9
    unfold venv cells3
    go_upto_region 7 with fail
    have ga := (Grew.refl w9).alloc (.cells #[.int .i64 0, .slice none 0 0, .slice none 0 0] 39)
    generalize w9.alloc (.cells #[.int .i64 0, .slice none 0 0, .slice none 0 0] 39) = wa at *
    have HLw := Lib.hid (HLv.out wa ga)
    have HGa := Lib.hid (HG9.out wa ga)
    clear ga HLv HG9
    go_wp2_with fail
    refine HLw.out.mono ?_
    rintro e wb ⟨rfl, kb⟩
    have HGb := Lib.hid (HGa.out.trans kb)
    clear kb
    go_wp2_with fail
    go_ret
    exact ⟨rfl, HGb.out⟩
  · rw [hc] at hcp
    have HCp := Lib.hid hcp
    have HBp := Lib.hid hbp
    have bx7 := bx6.grew k7
    have g17 := g16.trans k7
    have G7 := G6.trans k7
    have g67 := k7
    clear hc hcp hbp bx6 g16 G6 HN1 m6 c6 k7
    generalize hNN : spanD x = N at *
    have HNN := Lib.hid hNN
    clear hNN
    unfold venv cells3
    go_upto_region 6 with fail
    have ga := (Grew.refl w7).alloc (.cells #[.int .i64 (x 7), .slice B N p, .slice C N q] 39)
    have e15 : Box (w7.alloc (.cells #[.int .i64 (x 7), .slice B N p, .slice C N q] 39)) w7.heap.size 39 #[.int .i64 (x 7), .slice B N p, .slice C N q] := Box.new _ _ _
    have bx8 := bx7.grew ga
    have g18 := g17.trans ga
    have G8 := G7.trans ga
    have g68 := g67.trans ga
    have r1 := m71.grew ga
    have r2 := m72.grew ga
    generalize w7.alloc (.cells #[.int .i64 (x 7), .slice B N p, .slice C N q] 39) = w8 at *
    generalize hgg : w7.heap.size = g15 at *
    clear bx7 g17 G7 g67 ga m71 m72 hgg
    have HN2 := Lib.hid (new_any nm A n c ls x (.slice A6 p6 q6) ds w8 HNm.out (HL.out w8 g18) HLs.out HGd.out (HM6.out w8 g68).rd HVd.out (by omega))
    rw [vdecl_cells, HNN.out] at HN2
    go_wp2_with (refine ldN 27 Tryd.underlying27 rfl (.tmp 9) gd (cells12 nm (.slice A n c) x) 27 info12 rfl rfl rfl bx8 ?_)
    refine HN2.out.mono ?_
    intro e w9 hN9
    rcases hN9 with ⟨hc9, -⟩ | ⟨hc9, B2, p2, C2, q2', rfl, m91, m92, k9⟩
    · rw [HCp.out] at hc9; cases hc9
    rw [HBp.out] at m91 m92
    have G9 := G8.trans k9
    have e15' := e15.grew k9
    have s1 := r1.grew k9
    have s2 := r2.grew k9
    clear hc9 HN2 bx8 g18 G8 g68 k9 e15 r1 r2
    unfold venv cells3
    go_upto_region 7 with fail
    have ga := (Grew.refl w9).alloc (.cells #[.int .i64 (x 7), .slice B2 N p2, .slice C2 N q2'] 39)
    have e17 : Box (w9.alloc (.cells #[.int .i64 (x 7), .slice B2 N p2, .slice C2 N q2'] 39)) w9.heap.size 39 #[.int .i64 (x 7), .slice B2 N p2, .slice C2 N q2'] := Box.new _ _ _
    have e15 := e15'.grew ga
    have Ga := G9.trans ga
    have t1 := s1.grew ga
    have t2 := s2.grew ga
    have t3 := m91.grew ga
    have t4 := m92.grew ga
    generalize w9.alloc (.cells #[.int .i64 (x 7), .slice B2 N p2, .slice C2 N q2'] 39) = wa at *
    generalize hgg : w9.heap.size = g17 at *
    clear ga e15' G9 s1 s2 m91 m92 hgg
    have c0 : wa.cell? ⟨g15, 0, none⟩ = some (.int .i64 (x 7)) := e15.cell 0
    have c1 : wa.cell? ⟨g15, 1, none⟩ = some (.slice B N p) := e15.cell 1
    have c2 : wa.cell? ⟨g15, 2, none⟩ = some (.slice C N q) := e15.cell 2
    have d0 : wa.cell? ⟨g17, 0, none⟩ = some (.int .i64 (x 7)) := e17.cell 0
    have d1 : wa.cell? ⟨g17, 1, none⟩ = some (.slice B2 N p2) := e17.cell 1
    have d2 : wa.cell? ⟨g17, 2, none⟩ = some (.slice C2 N q2') := e17.cell 2
    have HW1 := Lib.hid (within_any (x 7) (boundE x N cs).1 (boundE x N cs).2 (boundE x N cs).1 (boundE x N cs).2 B C B2 C2 p q p2 q2' N wa t1.rd t2.rd t3.rd t4.rd (by omega) (fun j hj => ⟨Int.le_refl _, Int.le_refl _⟩))
    unfold venv cells3 at HW1
    go_wp2_with fail
    refine HW1.out.mono ?_
    rintro e wb ⟨rfl, kb⟩
    have f15 := e15.grew kb
    have f17 := e17.grew kb
    have Gb := Ga.trans kb
    have u1 := t1.grew kb
    have u2 := t2.grew kb
    have u3 := t3.grew kb
    have u4 := t4.grew kb
    clear c0 c1 c2 d0 d1 d2 HW1 e15 e17 Ga t1 t2 t3 t4 kb
    have c0 : wb.cell? ⟨g15, 0, none⟩ = some (.int .i64 (x 7)) := f15.cell 0
    have c1 : wb.cell? ⟨g15, 1, none⟩ = some (.slice B N p) := f15.cell 1
    have c2 : wb.cell? ⟨g15, 2, none⟩ = some (.slice C N q) := f15.cell 2
    have d0 : wb.cell? ⟨g17, 0, none⟩ = some (.int .i64 (x 7)) := f17.cell 0
    have d1 : wb.cell? ⟨g17, 1, none⟩ = some (.slice B2 N p2) := f17.cell 1
    have d2 : wb.cell? ⟨g17, 2, none⟩ = some (.slice C2 N q2') := f17.cell 2
    have HW2 := Lib.hid (within_any (x 7) (boundE x N cs).1 (boundE x N cs).2 (boundE x N cs).1 (boundE x N cs).2 B2 C2 B C p2 q2' p q N wb u3.rd u4.rd u1.rd u2.rd (by omega) (fun j hj => ⟨Int.le_refl _, Int.le_refl _⟩))
    unfold venv cells3 at HW2
    go_wp2_with fail
    refine HW2.out.mono ?_
    rintro e wc ⟨rfl, kc⟩
    have Gc := Gb.trans kc
    have HLw := Lib.hid (lives_any wc (HT.out.on Gc))
    have HGc := Lib.hid Gc
    clear c0 c1 c2 d0 d1 d2 HW2 f15 f17 Gb u1 u2 u3 u4 kc Gc
    go_wp2_with fail
    refine HLw.out.mono ?_
    rintro e wd ⟨rfl, kd⟩
    have HGd := Lib.hid (HGc.out.trans kd)
    clear kd
    go_wp2_with fail
    go_ret
    exact ⟨rfl, HGd.out⟩
end Go.Proofs.YtggnifejlheebaaDoor
