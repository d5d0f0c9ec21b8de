/- The law BlockRound, walked: it returns true and leaves what was there. -/
import Derived.Test.YtaeahodgeopfbaaDoorBlockRoundP25
import Derived.Test.YtaeahodgeopfbaaDoorBlockRoundP24
import Derived.Deep.RegionHeld3
namespace Go.Proofs.YtaeahodgeopfbaaDoor
open Go.RowKit Pl

set_option maxHeartbeats 12800000 in
set_option maxRecDepth 100000 in
theorem blockRound_walk (n : Int) (v0 : Value) (l : List Int) (m : Int) (v1 : Value) (k : List Int) (w : World) (hn : I64 n) (h0 : Rd w w.heap.size v0 (l.map vi)) (hi : ∀ x ∈ l, I64 x) (hl : l.length ≤ 1000000000000000) (hm : I64 m) (h1 : Rd w w.heap.size v1 (k.map vi)) (hi' : ∀ x ∈ k, I64 x) (hl' : k.length ≤ 1000000000000000) (ht : Tab w w.heap.size) (hp : PTab w w.heap.size) :
    Calls Tryd.prog 3 #[.int .i64 n, v0, .int .i64 m, v1] w fun e w' => e = .returned (.bool true) ∧ Grew w w' := by
  have HM := Lib.hid (made_any n v0 l _ hn h0 hi hl)
  have HM2 := Lib.hid (fun w' (g : Grew w w') => made_any m v1 k w' hm ((h1.grew (Nat.le_refl _) g).more g.size) hi' hl')
  have HOK := Lib.hid (madeX_ok n)
  have HOK2 := Lib.hid (madeX_ok m)
  have HT := Lib.hid ht
  have HP := Lib.hid hp
  obtain ⟨A0, n0, c0, rfl, -, -⟩ := h0.form
  obtain ⟨A1, n1, c1, rfl, -, -⟩ := h1.form
  clear h0 hi ht hp h1 hi'
  generalize madeX n = X at *
  generalize madeX m = Y at *
  go_enter Tryd.func3, Tryd.ntmps3
  go_wp2_with fail
  refine HM.out.mono ?_
  rintro e w2 ⟨v2, cs, rfl, q1, q2, q3, hG2⟩
  obtain ⟨A2, m2, c2, rfl, -⟩ := q1.slice
  have hOf := of_any X A2 m2 c2 w2
  unfold vbl at hOf ⊢
  have HOf := Lib.hid hOf
  clear hOf HM
  go_wp2_with fail
  refine HOf.out.mono ?_
  rintro e w3 ⟨rfl, k3⟩
  have hG3 := hG2.trans k3
  have m3 := q1.grew k3
  have hs3 := hG3.size
  clear HOf k3 hG2 q1
  go_wp2_with (first | (refine st5 25 infoB (.tmp 9) (.tmp 20) w3.heap.size X zc (.slice A2 m2 c2) (.slice none 0 0) 25 rfl rfl rfl rfl rfl (Box.new w3 25 (cells5 zc (.slice none 0 0)).toArray) ?_; intro w4 bx4 k4))
  have hG4 : Grew w w4 := Keeps.then_ (hG3.alloc _) k4 (fun i hi e => by omega)
  have m4 := (m3.alloc (.cells (cells5 zc (.slice none 0 0)).toArray 25)).keep k4 (fun i e e2 => by have := (m3.lt i e).2; omega)
  have hs4 := k4.size
  rw [World.size_alloc] at hs4
  clear k4 hG3 m3
  refine (HM2.out w4 hG4).mono ?_
  rintro e w5 ⟨v5, ds, rfl, r1, r2, r3, k5⟩
  obtain ⟨A5, m5, c5, rfl, -⟩ := r1.slice
  have hOf := of_any Y A5 m5 c5 w5
  unfold vbl at hOf ⊢
  have HOf := Lib.hid hOf
  have hG5 := hG4.trans k5
  have bx5 := bx4.grew k5
  have m5' := m4.grew k5
  have hs5 := k5.size
  clear hOf HM2 hG4 bx4 m4 k5
  go_wp2_with fail
  refine HOf.out.mono ?_
  rintro e w6 ⟨rfl, k6⟩
  have hG6 := hG5.trans k6
  have bx6 := bx5.grew k6
  have m6 := m5'.grew k6
  have r6 := r1.grew k6
  have hs6 := k6.size
  have hlt6 := bx6.lt
  clear HOf k6 hG5 bx5 m5' r1
  have bx6a := bx6.alloc (.cells (cells5 zc (.slice none 0 0)).toArray 25)
  go_wp2_with (first | (refine st5 25 infoB (.tmp 10) (.tmp 24) w6.heap.size Y zc (.slice A5 m5 c5) (.slice none 0 0) 25 rfl rfl rfl rfl rfl (Box.new w6 25 (cells5 zc (.slice none 0 0)).toArray) ?_; intro w7 by7 k7; have bx7 := bx6a.keep k7 (by omega)) | (refine ld5v' 25 infoB Tryd.underlying25 rfl (.tmp 9) w3.heap.size X (.slice A2 m2 c2) 25 rfl rfl rfl bx7 ?_))
  have hG7 : Grew w w7 := Keeps.then_ (hG6.alloc _) k7 (fun i hi e => by have := hG6.size; omega)
  have m7 := (m6.alloc (.cells (cells5 zc (.slice none 0 0)).toArray 25)).keep k7 (fun i e e2 => by have := (m6.lt i e).2; omega)
  have r7 := (r6.alloc (.cells (cells5 zc (.slice none 0 0)).toArray 25)).keep k7 (fun i e e2 => by have := (r6.lt i e).2; omega)
  have hs7 := k7.size
  rw [World.size_alloc] at hs7
  clear k7 hG6 m6 r6 bx6 bx6a
  have hEn := bencode_any X _ cs w7 m7.rd (by omega) (HT.out.on hG7) (HP.out.on hG7)
  unfold vbl at hEn
  have HEn := Lib.hid hEn
  obtain ⟨hE0, hEB⟩ := made_enc HOK.out q2 q3
  obtain ⟨hF0, hFB⟩ := made_enc HOK2.out r2 r3
  have hSame := same_enc HOK.out q2 q3 HOK2.out r2 r3
  have hDec := dec_whole HOK.out q2 q3
  have hcl := core_len9 HOK.out q3
  have hcl2 := core_len9 HOK2.out r3
  have hcb : Bytes (wholeB (coreB X (pack (cbits cs)))) := by unfold wholeB; exact bytes_app (rawB_bytes (coreB_bytes X (pack_bytes _))) (vint_bytes _)
  obtain ⟨wl, wl1, wl2, wl3⟩ := whole_len hcl
  obtain ⟨wm, wm1, wm2, wm3⟩ := whole_len hcl2
  have hwl : (wholeB (coreB X (pack (cbits cs)))).length ≤ 1020 := by omega
  have hwm : (wholeB (coreB Y (pack (cbits ds)))).length ≤ 1020 := by omega
  have HE0 := Lib.hid hE0
  have HEB := Lib.hid hEB
  have HF0 := Lib.hid hF0
  have HFB := Lib.hid hFB
  clear hEn hE0 hEB hF0 hFB wl wl1 wl2 wl3 wm wm1 wm2 wm3 q2 r2 hcl hcl2
  refine HEn.out.mono ?_
  rintro e w8 ⟨vb8, rfl, b8, k8⟩
  rw [HE0.out]
  rw [HEB.out] at b8
  have hG8 := hG7.trans k8
  have bx8 := bx7.grew k8
  have by8 := by7.grew k8
  have m8 := m7.grew k8
  have r8 := r7.grew k8
  have hs8 := k8.size
  obtain ⟨A8, n8, c8, rfl, -⟩ := b8.slice
  have hEn := bencode_any Y _ ds w8 r8.rd (by omega) (HT.out.on hG8) (HP.out.on hG8)
  unfold vbl at hEn
  have HEn2 := Lib.hid hEn
  clear hEn HEn k8 hG7 bx7 by7 m7 r7 HE0 HEB
  go_wp2_with (first | (refine ld5v' 25 infoB Tryd.underlying25 rfl (.tmp 10) w6.heap.size Y (.slice A5 m5 c5) 25 rfl rfl rfl by8 ?_))
  refine HEn2.out.mono ?_
  rintro e w9 ⟨vb9, rfl, b9, k9⟩
  rw [HF0.out]
  rw [HFB.out] at b9
  generalize wholeB (coreB X (pack (cbits cs))) = wx at *
  generalize wholeB (coreB Y (pack (cbits ds))) = wy at *
  obtain ⟨A9, n9, c9, rfl, -⟩ := b9.slice
  have hG9 := hG8.trans k9
  have bx9 := bx8.grew k9
  have by9 := by8.grew k9
  have m9 := m8.grew k9
  have r9 := r8.grew k9
  have a9 := b8.grew k9
  have hs9 := k9.size
  have HDc := Lib.hid (bdecode_any _ wx w9 a9.rd hcb (by omega) (HT.out.on hG9) (HP.out.on hG9))
  rw [hDec] at HDc
  clear HEn2 k9 hG8 bx8 by8 m8 r8 b8 HF0 HFB hDec
  go_wp2_with fail
  refine HDc.out.mono ?_
  rintro e wC ⟨kC, vZ, rfl, mZ⟩
  obtain ⟨AZ, nZ, cZ, rfl, -⟩ := mZ.slice
  have hGC := hG9.trans kC
  have bxC := bx9.grew kC
  have byC := by9.grew kC
  have mC := m9.grew kC
  have rC := r9.grew kC
  have aC := a9.grew kC
  have bC := b9.grew kC
  have hsC := kC.size
  have hltx := bx9.lt
  have hlty := by9.lt
  unfold vbl
  clear HDc kC hG9 bx9 by9 m9 r9 a9 b9
  go_upto_region 6 with (first | (refine st5 25 infoB (.tmp 15) (.tmp 38) wC.heap.size X zc (.slice AZ nZ cZ) (.slice none 0 0) 25 rfl rfl rfl rfl rfl (Box.new wC 25 (cells5 zc (.slice none 0 0)).toArray) ?_; intro wk bz kk))
  try dsimp only [Act.put]
  have hGk : Grew w wk := Keeps.then_ (hGC.alloc _) kk (fun i hi e => by have := hGC.size; omega)
  have bxk := (bxC.alloc (.cells (cells5 zc (.slice none 0 0)).toArray 25)).keep kk (by omega)
  have byk := (byC.alloc (.cells (cells5 zc (.slice none 0 0)).toArray 25)).keep kk (by omega)
  have mk := (mC.alloc (.cells (cells5 zc (.slice none 0 0)).toArray 25)).keep kk (fun i e e2 => by have := (mC.lt i e).2; omega)
  have rk := (rC.alloc (.cells (cells5 zc (.slice none 0 0)).toArray 25)).keep kk (fun i e e2 => by have := (rC.lt i e).2; omega)
  have zk := (mZ.alloc (.cells (cells5 zc (.slice none 0 0)).toArray 25)).keep kk (fun i e e2 => by have := (mZ.lt i e).2; omega)
  have ak := (aC.alloc (.cells (cells5 zc (.slice none 0 0)).toArray 25)).keep kk (fun i e e2 => by have := (aC.lt i e).2; omega)
  have bk := (bC.alloc (.cells (cells5 zc (.slice none 0 0)).toArray 25)).keep kk (fun i e e2 => by have := (bC.lt i e).2; omega)
  have hS : ∀ w', Grew wk w' → w'.cell? ⟨w3.heap.size, 0, none⟩ = some (.int .i64 X.1) ∧ w'.cell? ⟨w3.heap.size, 1, none⟩ = some (.int .i64 X.2.1) ∧ w'.cell? ⟨w3.heap.size, 2, none⟩ = some (.int .i64 X.2.2.1) ∧ w'.cell? ⟨w3.heap.size, 3, none⟩ = some (.int .i64 X.2.2.2) ∧ w'.cell? ⟨w3.heap.size, 4, none⟩ = some (.slice A2 m2 c2) ∧ w'.cell? ⟨w6.heap.size, 0, none⟩ = some (.int .i64 Y.1) ∧ w'.cell? ⟨w6.heap.size, 1, none⟩ = some (.int .i64 Y.2.1) ∧ w'.cell? ⟨w6.heap.size, 2, none⟩ = some (.int .i64 Y.2.2.1) ∧ w'.cell? ⟨w6.heap.size, 3, none⟩ = some (.int .i64 Y.2.2.2) ∧ w'.cell? ⟨w6.heap.size, 4, none⟩ = some (.slice A5 m5 c5) ∧ w'.cell? ⟨wC.heap.size, 0, none⟩ = some (.int .i64 X.1) ∧ w'.cell? ⟨wC.heap.size, 1, none⟩ = some (.int .i64 X.2.1) ∧ w'.cell? ⟨wC.heap.size, 2, none⟩ = some (.int .i64 X.2.2.1) ∧ w'.cell? ⟨wC.heap.size, 3, none⟩ = some (.int .i64 X.2.2.2) ∧ w'.cell? ⟨wC.heap.size, 4, none⟩ = some (.slice AZ nZ cZ) := fun w' g => by
    obtain ⟨a0, a1, a2, a3, a4⟩ := (bxk.grew g).five
    obtain ⟨b0, b1, b2, b3, b4⟩ := (byk.grew g).five
    obtain ⟨d0, d1, d2, d3, d4⟩ := (bz.grew g).five
    exact ⟨a0, a1, a2, a3, a4, b0, b1, b2, b3, b4, d0, d1, d2, d3, d4⟩
  have HS := Lib.hid hS
  have HE1 := Lib.hid (fun w' (g : Grew wk w') => bequal_any X X _ _ cs cs w' (mk.grew g).rd (zk.grew g).rd (by omega) (by omega))
  have HE2 := Lib.hid (fun w' (g : Grew wk w') => bequal_any X X _ _ cs cs w' (zk.grew g).rd (mk.grew g).rd (by omega) (by omega))
  have HE3 := Lib.hid (fun w' (g : Grew wk w') => bequal_any X Y _ _ cs ds w' (mk.grew g).rd (rk.grew g).rd (by omega) (by omega))
  have HSb := Lib.hid (fun w' (g : Grew wk w') => sameBytes_any _ _ wx wy w' (ak.grew g).rd (bk.grew g).rd (by omega) (by omega))
  have HLv := Lib.hid (fun w' (g : Grew wk w') => lives18_any w' (HT.out.on (hGk.trans g)) (HP.out.on (hGk.trans g)))
  rw [show decide (X = X ∧ cs = cs) = true by simp] at HE1 HE2
  rw [hSame] at HSb
  obtain ⟨D, hD⟩ : ∃ D, D = decide (X = Y ∧ cs = ds) := ⟨_, rfl⟩
  rw [← hD] at HSb HE3
  unfold vbl at HE1 HE2 HE3
  have dD : (D == D) = true := by cases D <;> rfl
  have gz : Grew wk wk.drew := Keeps.drew (Grew.refl wk)
  have cz := hS wk.drew gz
  have HGk := Lib.hid hGk
  clear hS hD hSame mk rk zk ak bk bxk byk bz kk hGC bxC byC mC rC aC bC mZ hGk
  go_region_held3 (fun w' => w'.cell? ⟨w3.heap.size, 0, none⟩ = some (.int .i64 X.1) ∧ w'.cell? ⟨w3.heap.size, 1, none⟩ = some (.int .i64 X.2.1) ∧ w'.cell? ⟨w3.heap.size, 2, none⟩ = some (.int .i64 X.2.2.1) ∧ w'.cell? ⟨w3.heap.size, 3, none⟩ = some (.int .i64 X.2.2.2) ∧ w'.cell? ⟨w3.heap.size, 4, none⟩ = some (.slice A2 m2 c2) ∧ w'.cell? ⟨w6.heap.size, 0, none⟩ = some (.int .i64 Y.1) ∧ w'.cell? ⟨w6.heap.size, 1, none⟩ = some (.int .i64 Y.2.1) ∧ w'.cell? ⟨w6.heap.size, 2, none⟩ = some (.int .i64 Y.2.2.1) ∧ w'.cell? ⟨w6.heap.size, 3, none⟩ = some (.int .i64 Y.2.2.2) ∧ w'.cell? ⟨w6.heap.size, 4, none⟩ = some (.slice A5 m5 c5) ∧ w'.cell? ⟨wC.heap.size, 0, none⟩ = some (.int .i64 X.1) ∧ w'.cell? ⟨wC.heap.size, 1, none⟩ = some (.int .i64 X.2.1) ∧ w'.cell? ⟨wC.heap.size, 2, none⟩ = some (.int .i64 X.2.2.1) ∧ w'.cell? ⟨wC.heap.size, 3, none⟩ = some (.int .i64 X.2.2.2) ∧ w'.cell? ⟨wC.heap.size, 4, none⟩ = some (.slice AZ nZ cZ)) (first | assumption | exact HS.out _ (by assumption) | exact HS.out _ (Keeps.drew (Grew.refl _)))
    (first | (go_at_call 8; (with_reducible refine (HE1.out wk.drew gz).mono ?_); rintro e wa ⟨rfl, ga⟩; have gA := gz.trans ga; have cA := HS.out wa gA) | (go_at_call 8; (with_reducible refine (HE2.out wa gA).mono ?_); rintro e wb ⟨rfl, gb⟩; have gB := gA.trans gb; have cB := HS.out wb gB) | (go_at_call 9; (with_reducible refine (HSb.out wb gB).mono ?_); rintro e wd ⟨rfl, nd, hd⟩; have gD : Grew wk wd := (by rw [hd]; exact Keeps.drewN gB nd); clear hd; have cD := HS.out wd gD) | (go_at_call 8; (with_reducible refine (HE3.out wd gD).mono ?_); rintro e we ⟨rfl, ge⟩; have gE := gD.trans ge; have cE := HS.out we gE) | (go_at_call 10; (with_reducible refine (HLv.out we gE).mono ?_); rintro e wf ⟨rfl, gf⟩; have gF := gE.trans gf; have cF := HS.out wf gF))
  go_wp2_with fail
  go_ret
  exact ⟨rfl, HGk.out.trans gF⟩
end Go.Proofs.YtaeahodgeopfbaaDoor
