/- The law BlockDecodes, walked: it returns true and leaves what was there. -/
import Derived.Test.YtjiiiimhegkklaaDoorBlockDecodesP34
import Derived.Test.YtjiiiimhegkklaaDoorBlockDecodesP39
import Derived.Test.YtjiiiimhegkklaaDoorBlockDecodesP37
namespace Go.Proofs.YtjiiiimhegkklaaDoor
open Go.RowKit Pl

theorem core_lenI {x : Clm} (hx : I64 x.1 ∧ I64 x.2.1 ∧ I64 x.2.2.1 ∧ I64 x.2.2.2) {cb : List Nat} (hl : cb.length ≤ 400) : (coreB x cb).length ≤ 1000 := by
  obtain ⟨x1, x2, x3, x4⟩ := hx
  have l1 := vint_len10 (zig_lt x1)
  have l2 := vint_len10 (zig_lt x2)
  have l3 := vint_len10 (zig_lt x3)
  have l4 := vint_len10 (zig_lt x4)
  have l5 := vint_len10 (n := cb.length) (by omega)
  unfold coreB rawB
  simp only [List.length_append]
  omega
theorem core_pos (x : Clm) (cb : List Nat) : 1 ≤ (coreB x cb).length := by
  have := vint_pos (zig x.1)
  unfold coreB
  simp only [List.length_append]
  omega
theorem setC_I64 {x : Clm} (hx : I64 x.1 ∧ I64 x.2.1 ∧ I64 x.2.2.1 ∧ I64 x.2.2.2) {k : Nat} {n : Int} (hn : I64 n) : I64 (setC x k n).1 ∧ I64 (setC x k n).2.1 ∧ I64 (setC x k n).2.2.1 ∧ I64 (setC x k n).2.2.2 := by
  obtain ⟨x1, x2, x3, x4⟩ := hx
  unfold setC
  split <;> exact ⟨by assumption, by assumption, by assumption, by assumption⟩
theorem Mine.nilc {w : World} {base : Nat} {e : TypeId} {v : Value} {xs : List Value} (h : Mine w base e v xs) : ∀ n c, v = .slice none n c → c = 0 := by
  rcases h.form with ⟨rfl, _⟩ | ⟨g, cap, cur, rfl, _⟩
  · intro n c e; cases e; rfl
  · intro n c e; cases e
theorem Mine.setB {w : World} {base r n c : Nat} {bs : List Nat} (h : Mine w base 5 (.slice (some ⟨r, 0, none⟩) n c) (bs.map vb)) {k y : Nat} (hk : k < bs.length) : Mine (w.setCell ⟨r, k, none⟩ (.int .u8 (y : Nat))) base 5 (.slice (some ⟨r, 0, none⟩) n c) ((bs.set k y).map vb) := by
  rw [List.map_set]
  exact h.store rfl (by rw [List.length_map]; exact hk) _
theorem Mine.froz {w : World} {base r n c : Nat} {e : TypeId} {xs : List Value} (h : Mine w base e (.slice (some ⟨r, 0, none⟩) n c) xs) (k : Nat) : w.frozen? ⟨r, k, none⟩ = false := by
  rcases h.form with ⟨h, _⟩ | ⟨g, cap, cur, hv, _, hbox, _⟩
  · cases h
  · injection hv with hv
    injection hv with hv
    injection hv with hv
    subst hv
    exact hbox.frozen _
theorem whole_len2 {core : List Nat} (h : core.length ≤ 1000) : (wholeB core).length ≤ 1020 ∧ 1 ≤ (wholeB core).length := by
  obtain ⟨h1, h2, h3, h4⟩ := whole_len h
  omega
theorem whole_bytes {core : List Nat} (h : Bytes core) : Bytes (wholeB core) := by unfold wholeB; exact bytes_app (rawB_bytes h) (vint_bytes _)
set_option maxHeartbeats 12800000 in
set_option maxRecDepth 100000 in
theorem blockDecodes_walk (vr : Value) (raw : List Nat) (n : Int) (v0 : Value) (l : List Int) (at_ : Int) (cc : Nat) (to_ : Int) (w : World) (hr : Rd w w.heap.size vr (raw.map vb)) (hrb : Bytes raw) (hn : I64 n) (h0 : Rd w w.heap.size v0 (l.map vi)) (hi : ∀ x ∈ l, I64 x) (hl : l.length ≤ 1000000000000000) (ha : I64 at_) (hcc : cc < 256) (hto : I64 to_) (ht : Tab w w.heap.size) (hp : PTab w w.heap.size) :
    Calls Tryd.prog 13 #[vr, .int .i64 n, v0, .int .i64 at_, .int .u8 (cc : Nat), .int .i64 to_] w fun e w' => e = .returned (.bool true) ∧ Grew w w' := by
  have HM := Lib.hid (made_any n v0 l _ hn h0 hi hl)
  have HOK := Lib.hid (madeX_ok n)
  have HT := Lib.hid ht
  have HP := Lib.hid hp
  have HRR := Lib.hid hr
  obtain ⟨A0, n0, c0, rfl, -, -⟩ := h0.form
  obtain ⟨Ar, nr, cr, rfl, -, -⟩ := hr.form
  clear h0 hi ht hp hr
  generalize madeX n = X at *
  go_enter Tryd.func13, Tryd.ntmps13
  go_wp2_with fail
  refine HM.out.mono ?_
  rintro e w2 ⟨v2, cs, rfl, q1, q2, q3, hG2⟩
  obtain ⟨A2, m2, c2, rfl, -⟩ := q1.slice
  obtain ⟨hE0, hEB⟩ := made_enc HOK.out q2 q3
  have hI64 := okB_i64 HOK.out
  have hEE : encE cs = 0 := by unfold encE; rw [if_neg (by omega), if_pos q2]
  have hcbl : (encB cs).length ≤ 400 := by
    rw [encB_ok hEE, pack_length]
    have := cbits_length cs
    omega
  have hcbb : Bytes (encB cs) := by rw [encB_ok hEE]; exact pack_bytes _
  rw [← encB_ok hEE] at hEB
  have HE0 := Lib.hid hE0
  have HEB := Lib.hid hEB
  have HI64 := Lib.hid hI64
  unfold vbl
  have hO2 : ∀ i, (Value.slice A2 m2 c2).ownBlock = some i → i < w2.heap.size := fun i e => (q1.lt i e).2
  have HO2 := Lib.hid hO2
  have hs2 := hG2.size
  clear hO2 HM hE0 hEB hEE hI64 q2
  go_wp2_with (first | (refine st5 27 infoR (.tmp 13) (.tmp 29) w2.heap.size X zc (.slice A2 m2 c2) (.slice none 0 0) 27 rfl rfl rfl rfl rfl (Box.new w2 27 (cells5 zc (.slice none 0 0)).toArray) ?_; intro w3 hb3 hk3) | (refine ld5v 27 infoR Tryd.underlying27 rfl (.tmp 13) w2.heap.size X (.slice A2 m2 c2) 27 rfl rfl rfl hb3 ?_))
  have m3 := (q1.alloc (.cells (cells5 zc (.slice none 0 0)).toArray 27)).keep hk3 (fun i e e2 => by have := HO2.out i e; omega)
  have hG3 : Grew w w3 := Keeps.then_ (hG2.alloc _) hk3 (fun i hi e => by omega)
  have hs3 := hk3.size
  rw [World.size_alloc] at hs3
  have hEn := rbencode_any X _ cs w3 m3.rd (by omega)
  unfold vbl at hEn
  have HEn := Lib.hid hEn
  clear hk3 hG2 q1 hEn
  refine HEn.out.mono ?_
  rintro e w4 ⟨vb4, rfl, b4, k4⟩
  rw [HE0.out]
  rw [HEB.out] at b4
  have hcl := core_lenI HI64.out hcbl
  have hcp := core_pos X (encB cs)
  have hcb : Bytes (coreB X (encB cs)) := coreB_bytes X hcbb
  obtain ⟨wl, wl1⟩ := whole_len2 hcl
  have hwb := whole_bytes hcb
  generalize wholeB (coreB X (encB cs)) = wh at *
  have hG4 := hG3.trans k4
  have hb4 := hb3.grew k4
  have m4 := m3.grew k4
  have hs4 := k4.size
  obtain ⟨r4, hr4⟩ : ∃ r4 n4 c4, vb4 = .slice (some ⟨r4, 0, none⟩) n4 c4 ∧ n4 = wh.length := by
    obtain ⟨A4, n4, c4, rfl, hn4⟩ := b4.slice
    rw [List.length_map] at hn4
    obtain ⟨r4, rfl⟩ := b4.some_ (by rw [List.length_map]; omega)
    exact ⟨r4, n4, c4, rfl, hn4⟩
  obtain ⟨n4, c4, rfl, hn4⟩ := hr4
  have HN4 := Lib.hid hn4
  have hr4l := b4.lt r4 rfl
  have HA1 := Lib.hid (still_around at_ n4 w4 ha (by omega) (by omega))
  have hk1 := arnd_lt at_ n4 (by omega)
  generalize arnd at_ n4 = k1 at *
  have hk1w : k1 < wh.length := by omega
  have e1 := b4.cellAt (j := k1) (by rw [List.length_map]; exact hk1w)
  rw [List.getElem_map] at e1
  have f1 := b4.froz k1
  unfold vb at e1
  generalize wh[k1] = ox at e1
  have tz : ((n4 : Int) == 0) = false := by simp; omega
  have tzn : (n4 == 0) = false := by simp; omega
  have i1 : (k1 : Int) < (n4 : Int) := by omega
  have H4 := Lib.hid b4
  have hn4l : n4 ≤ 1020 := by omega
  clear HEn hb3 hG3 m3 k4 b4 hn4 HE0 HEB
  go_wp2_with fail
  refine HA1.out.mono ?_
  rintro e w' ⟨rfl, hw'⟩
  rw [hw']; clear hw' w' HA1
  go_wp2_with (refine st_u8 (.tmp 44) (.tmp 43) r4 k1 (cc : Nat) (.int .u8 (ox : Nat)) rfl rfl rfl rfl e1 f1 ?_; intro w5 hw5; have k5 : Keeps (fun i => i = r4) w4 w5 := (by rw [hw5]; exact (Keeps.refl (fun i => i = r4) w4).setCell (p := ⟨r4, k1, none⟩) (.inl rfl) _); have b5 : Mine w5 w3.heap.size 5 (.slice (some ⟨r4, 0, none⟩) n4 c4) ((wh.set k1 cc).map vb) := (by rw [hw5]; exact H4.out.setB hk1w); clear hw5; have hb5 := hb4.keep k5 (by omega); have c54 := hb5.five.2.2.2.2)
  have m5 := m4.keep k5 (fun i e e2 => by have := HO2.out i e; omega)
  have hG5 : Grew w w5 := Keeps.then_ hG4 k5 (fun i hi e => by omega)
  have hs5 := k5.size
  have HEc := Lib.hid (encode_any _ cs w5 m5.rd (by omega) (HT.out.on hG5))
  clear k5 hb4 m4 H4 e1 f1 hG4 tz tzn
  refine HEc.out.mono ?_
  rintro e w6 hp6
  obtain ⟨vc, rfl, p1, p2⟩ := hp6.all
  obtain ⟨Ac, nc, qc, rfl, -⟩ := p1.slice
  have hG6 := hG5.trans p2
  have hb6 := hb5.grew p2
  have b6 := b5.grew p2
  have hs6 := p2.size
  have hCo := rcore_any X A2 m2 c2 _ _ w6 HI64.out p1.rd (by omega)
  unfold vbl at hCo
  have HCo := Lib.hid hCo
  clear HEc hp6 hb5 b5 hG5 m5 c54 p2 hCo
  go_wp2_with (first | (refine ld5v 27 infoR Tryd.underlying27 rfl (.tmp 13) w2.heap.size X (.slice A2 m2 c2) 27 rfl rfl rfl hb6 ?_))
  refine HCo.out.mono ?_
  rintro e w7 ⟨v7, rfl, d7, k7⟩
  have hG7 := hG6.trans k7
  have hb7 := hb6.grew k7
  have b7 := b6.grew k7
  have p7 := p1.grew k7
  have hs7 := k7.size
  obtain ⟨r7, hr7⟩ : ∃ r7 n7 c7, v7 = .slice (some ⟨r7, 0, none⟩) n7 c7 ∧ n7 = (coreB X (encB cs)).length := by
    obtain ⟨A4, n4, c4, rfl, hn4⟩ := d7.slice
    rw [List.length_map] at hn4
    obtain ⟨r4, rfl⟩ := d7.some_ (by rw [List.length_map]; omega)
    exact ⟨r4, n4, c4, rfl, hn4⟩
  obtain ⟨n7, c7, rfl, hn7⟩ := hr7
  have hr7l := d7.lt r7 rfl
  have hOp : ∀ i, (Value.slice Ac nc qc).ownBlock = some i → i < w6.heap.size := fun i e => (p1.lt i e).2
  have HOp := Lib.hid hOp
  have HA1 := Lib.hid (still_around at_ n7 w7 ha (by omega) (by omega))
  have hk2 := arnd_lt at_ n7 (by omega)
  generalize arnd at_ n7 = k2 at *
  have hk2w : k2 < (coreB X (encB cs)).length := by omega
  have e1 := d7.cellAt (j := k2) (by rw [List.length_map]; exact hk2w)
  rw [List.getElem_map] at e1
  have f1 := d7.froz k2
  unfold vb at e1
  generalize (coreB X (encB cs))[k2] = oy at e1
  have i2 : (k2 : Int) < (n7 : Int) := by omega
  have H7 := Lib.hid d7
  have hn7l : n7 ≤ 1000 := by omega
  clear HCo hb6 hG6 b6 p1 k7 d7 hn7 hOp
  go_wp2_with fail
  refine HA1.out.mono ?_
  rintro e w' ⟨rfl, hw'⟩
  rw [hw']; clear hw' w' HA1
  have HBe := Lib.hid (fun w' => bent_any X at_ to_ A2 m2 c2 w' ha)
  unfold vbl at HBe
  go_wp2_with (first | (refine st_u8 (.tmp 60) (.tmp 59) r7 k2 (cc : Nat) (.int .u8 (oy : Nat)) rfl rfl rfl rfl e1 f1 ?_; intro w8 hw8; have k8 : Keeps (fun i => i = r7) w7 w8 := (by rw [hw8]; exact (Keeps.refl (fun i => i = r7) w7).setCell (p := ⟨r7, k2, none⟩) (.inl rfl) _); have d8 : Mine w8 w6.heap.size 5 (.slice (some ⟨r7, 0, none⟩) n7 c7) (((coreB X (encB cs)).set k2 cc).map vb) := (by rw [hw8]; exact H7.out.setB hk2w); clear hw8; have hb8 := hb7.keep k8 (by omega)) | (refine ld5v 27 infoR Tryd.underlying27 rfl (.tmp 13) w2.heap.size X (.slice A2 m2 c2) 27 rfl rfl rfl hb8 ?_))
  have b8 := b7.keep k8 (fun i e e2 => by have := (show r4 = i by simpa [Value.ownBlock] using e); omega)
  have p8 := p7.keep k8 (fun i e e2 => by have := HOp.out i e; omega)
  have hG8 : Grew w w8 := Keeps.then_ hG7 k8 (fun i hi e => by omega)
  have hs8 := k8.size
  have hcore' : ((coreB X (encB cs)).set k2 cc).length ≤ 1000 := by rw [List.length_set]; exact hcl
  have hcoreb : Bytes ((coreB X (encB cs)).set k2 cc) := bytes_set hcb _ hcc
  generalize (coreB X (encB cs)).set k2 cc = core1 at *
  clear k8 hb7 b7 p7 H7 e1 f1 hG7
  refine (HBe.out w8).mono ?_
  rintro e w9 ⟨rfl, k9⟩
  have hG9 := hG8.trans k9
  have b9 := b8.grew k9
  have p9 := p8.grew k9
  have d9 := d8.grew k9
  have hs9 := k9.size
  have hYI : I64 (setC X (arnd at_ 4) to_).1 ∧ I64 (setC X (arnd at_ 4) to_).2.1 ∧ I64 (setC X (arnd at_ 4) to_).2.2.1 ∧ I64 (setC X (arnd at_ 4) to_).2.2.2 := setC_I64 HI64.out hto
  generalize setC X (arnd at_ 4) to_ = Y at *
  have hCo := rcore_any Y A2 m2 c2 _ _ w9 hYI p9.rd (by omega)
  unfold vbl at hCo
  have HCo := Lib.hid hCo
  have hbl := core_lenI hYI hcbl
  have hbb : Bytes (coreB Y (encB cs)) := coreB_bytes Y hcbb
  clear HBe hG8 b8 p8 d8 hb8 k9 hCo hYI
  go_wp2_with fail
  refine HCo.out.mono ?_
  rintro e wA ⟨vA, rfl, eA, kA⟩
  obtain ⟨AA, nA, cA, rfl, -⟩ := eA.slice
  generalize coreB Y (encB cs) = core2 at *
  have hGA := hG9.trans kA
  have bA := b9.grew kA
  have dA := d9.grew kA
  have HFw := Lib.hid (few_any _ raw 60 wA ((HRR.out.grew (Nat.le_refl _) hGA).more hGA.size) (by omega))
  have hfl : (raw.take 60).length ≤ 60 := List.length_take_le _ _
  have hfb : Bytes (raw.take 60) := bytes_take hrb 60
  generalize raw.take 60 = few at *
  clear HCo hG9 b9 p9 d9 kA
  go_wp2_with fail
  refine HFw.out.mono ?_
  rintro e wB ⟨vB, rfl, gB, kB⟩
  obtain ⟨AB, nB, cB, rfl, -⟩ := gB.slice
  have hGB := hGA.trans kB
  have bB := bA.grew kB
  have HW1 := Lib.hid (rwhole_any _ core1 wB (dA.grew kB).rd hcoreb (by omega))
  have eB := eA.grew kB
  clear HFw hGA bA dA eA kB
  go_wp2_with fail
  refine HW1.out.mono ?_
  rintro e wC ⟨vC, rfl, hC, kC⟩
  obtain ⟨AC, nC, cC, rfl, -⟩ := hC.slice
  have hGC := hGB.trans kC
  have bC := bB.grew kC
  have gC := gB.grew kC
  have HW2 := Lib.hid (rwhole_any _ core2 wC (eB.grew kC).rd hbb (by omega))
  clear HW1 hGB bB gB eB kC
  go_wp2_with fail
  refine HW2.out.mono ?_
  rintro e wD ⟨vD, rfl, iD, kD⟩
  obtain ⟨AD, nD, cD, rfl, -⟩ := iD.slice
  have hGD := hGC.trans kD
  have bD := bC.grew kD
  have gD := gC.grew kD
  have hD := hC.grew kD
  have HW3 := Lib.hid (rwhole_any _ few wD gD.rd hfb (by omega))
  clear HW2 hGC bC gC hC kD
  go_wp2_with fail
  refine HW3.out.mono ?_
  rintro e wE ⟨vE, rfl, jE, kE⟩
  obtain ⟨AE, nE, cE, rfl, -⟩ := jE.slice
  have hGE := hGD.trans kE
  have bE := bD.grew kE
  have gE := gD.grew kE
  have hE := hD.grew kE
  have iE := iD.grew kE
  clear HW3 hGD bD gD hD iD kE
  go_upto_region 12 with fail
  obtain ⟨W, hW⟩ : ∃ W, W = wE.alloc (.cells #[.slice AB nB cB, .slice (some ⟨r4, 0, none⟩) n4 c4, .slice AC nC cC, .slice AD nD cD, .slice AE nE cE] 31) := ⟨_, rfl⟩
  rw [← hW]
  have hbW : Box W wE.heap.size 31 #[.slice AB nB cB, .slice (some ⟨r4, 0, none⟩) n4 c4, .slice AC nC cC, .slice AD nD cD, .slice AE nE cE] := by rw [hW]; exact Box.new wE _ _
  have gEW : Grew wE W := by rw [hW]; exact (Grew.refl wE).alloc _
  have hGW := hGE.trans gEW
  obtain ⟨wl2, -⟩ := whole_len2 hcore'
  obtain ⟨wl3, -⟩ := whole_len2 hbl
  obtain ⟨wl4, -⟩ := whole_len2 (core := few) (by omega)
  have hall : ∀ w', Grew W w' → ∀ j, j < 5 → ∃ A n c bs, w'.cell? ⟨wE.heap.size, j, none⟩ = some (.slice A n c) ∧ Rd w' w'.heap.size (.slice A n c) (bs.map vb) ∧ (∀ n' c', Value.slice A n c = .slice none n' c' → c' = 0) ∧ Bytes bs ∧ bs.length ≤ 100000 := by
    intro w' g j hj
    have hb' := hbW.grew g
    have gg := gEW.trans g
    have : j = 0 ∨ j = 1 ∨ j = 2 ∨ j = 3 ∨ j = 4 := by omega
    rcases this with rfl | rfl | rfl | rfl | rfl
    · exact ⟨_, _, _, few, hb'.cell 0, (gE.grew gg).rd, gE.nilc, hfb, by omega⟩
    · exact ⟨_, _, _, wh.set k1 cc, hb'.cell 1, (bE.grew gg).rd, bE.nilc, bytes_set hwb _ hcc, by rw [List.length_set]; omega⟩
    · exact ⟨_, _, _, wholeB core1, hb'.cell 2, (hE.grew gg).rd, hE.nilc, whole_bytes hcoreb, by omega⟩
    · exact ⟨_, _, _, wholeB core2, hb'.cell 3, (iE.grew gg).rd, iE.nilc, whole_bytes hbb, by omega⟩
    · exact ⟨_, _, _, wholeB few, hb'.cell 4, (jE.grew gg).rd, jE.nilc, whole_bytes hfb, by omega⟩
  have HALL := Lib.hid hall
  have HGW := Lib.hid hGW
  clear hall hbW gEW hGW hW hGE bE gE hE iE jE wl2 wl3 wl4 wl wl1
  go_wp2_with fail
  go_loopw [22] (fun i wr => ∃ j : Nat, j ≤ 5 ∧ i = .int .i64 j ∧ Grew W wr) (fun i _ => 5 - (intOf i).toNat)
  case atStart => exact ⟨0, by omega, rfl, Grew.refl _⟩
  case round =>
    obtain ⟨j, hj, rfl, hGr⟩ := hrel
    by_cases hlt : j < 5
    · obtain ⟨A, n', c', bs, hcel, hrd, hnil, hbs, hbl'⟩ := HALL.out wr hGr j hlt
      have hGwr := HGW.out.trans hGr
      have HD1 := Lib.hid (bdecode_any _ bs wr hrd hbs hbl' (HT.out.on hGwr) (HP.out.on hGwr))
      have hlen := decB_len hbs
      have HD2 := Lib.hid (fun w' (g : Grew wr w') => rbdecode_any _ bs w' ((hrd.grew (Nat.le_refl _) g).more g.size) hnil hbs hbl')
      have hcl2 := fun w' (g : Grew wr w') => ((World.cell?_of_block (a := ⟨wE.heap.size, j, none⟩) (g.block wE.heap.size (World.block_lt_of_cell? wr _ hcel) (fun e => e))).trans hcel)
      have HC2 := Lib.hid hcl2
      generalize decB bs = oo at *
      clear hrd hnil hbs hcl2
      go_wp2_with fail
      refine HD1.out.mono ?_
      rintro e wa hpa
      obtain ⟨A1, n1, c1, rfl, ma, ga⟩ := hpa.all
      have hsa := ga.size
      unfold vbl
      clear hcel HD1 hpa
      have cel2 := HC2.out wa ga
      have ga0 : Grew wr (wa.alloc (.cells (cells5 zc (.slice none 0 0)).toArray 35)) := ga.alloc _
      go_wp2_with (first | (refine st5 35 infoB (.tmp 23) (.tmp 88) wa.heap.size (oX oo) zc (.slice A1 n1 c1) (.slice none 0 0) 35 rfl rfl rfl rfl rfl (Box.new wa 35 (cells5 zc (.slice none 0 0)).toArray) ?_; intro wb bb kb; have gb : Grew wr wb := Keeps.then_ ga0 kb (fun i hi e => (by omega)); have celb := HC2.out wb gb; clear cel2))
      have mb := (ma.alloc (.cells (cells5 zc (.slice none 0 0)).toArray 35)).keep kb (fun i e e2 => by have := (ma.lt i e).2; omega)
      have hsb := kb.size
      rw [World.size_alloc] at hsb
      clear kb ma ga0 celb
      refine (HD2.out wb gb).mono ?_
      rintro e wd hpd
      obtain ⟨A3, n3, c3, rfl, md, gd⟩ := hpd.all
      have hsd := gd.size
      unfold vbl
      have bd := bb.grew gd
      have mbd := mb.grew gd
      have gwd := gb.trans gd
      clear HD2 hpd bb mb
      have bbd := bd.alloc (.cells (cells5 zc (.slice none 0 0)).toArray 27)
      go_upto_region 17 with (first | (refine st5 27 infoR (.tmp 25) (.tmp 96) wd.heap.size (oX oo) zc (.slice A3 n3 c3) (.slice none 0 0) 27 rfl rfl rfl rfl rfl (Box.new wd 27 (cells5 zc (.slice none 0 0)).toArray) ?_; intro wk bk kk))
      try dsimp only [Act.put]
      have hltd := bd.lt
      have gwk : Grew wr wk := Keeps.then_ (gwd.alloc _) kk (fun i hi e => by have := gwd.size; omega)
      have bbk := bbd.keep kk (by omega)
      have m1k := (mbd.alloc (.cells (cells5 zc (.slice none 0 0)).toArray 27)).keep kk (fun i e e2 => by have := (mbd.lt i e).2; omega)
      have m3k := (md.alloc (.cells (cells5 zc (.slice none 0 0)).toArray 27)).keep kk (fun i e e2 => by have := (md.lt i e).2; omega)
      have hS : ∀ w', Grew wk w' → w'.cell? ⟨wa.heap.size, 0, none⟩ = some (.int .i64 (oX oo).1) ∧ w'.cell? ⟨wa.heap.size, 1, none⟩ = some (.int .i64 (oX oo).2.1) ∧ w'.cell? ⟨wa.heap.size, 2, none⟩ = some (.int .i64 (oX oo).2.2.1) ∧ w'.cell? ⟨wa.heap.size, 3, none⟩ = some (.int .i64 (oX oo).2.2.2) ∧ w'.cell? ⟨wa.heap.size, 4, none⟩ = some (.slice A1 n1 c1) ∧ w'.cell? ⟨wd.heap.size, 0, none⟩ = some (.int .i64 (oX oo).1) ∧ w'.cell? ⟨wd.heap.size, 1, none⟩ = some (.int .i64 (oX oo).2.1) ∧ w'.cell? ⟨wd.heap.size, 2, none⟩ = some (.int .i64 (oX oo).2.2.1) ∧ w'.cell? ⟨wd.heap.size, 3, none⟩ = some (.int .i64 (oX oo).2.2.2) ∧ w'.cell? ⟨wd.heap.size, 4, none⟩ = some (.slice A3 n3 c3) := fun w' g => by
        obtain ⟨a0, a1, a2, a3, a4⟩ := (bbk.grew g).five
        obtain ⟨b0, b1, b2, b3, b4⟩ := (bk.grew g).five
        exact ⟨a0, a1, a2, a3, a4, b0, b1, b2, b3, b4⟩
      have HS := Lib.hid hS
      have HPl := Lib.hid (fun w' => plain_any (oX oo) A1 n1 c1 w')
      have HSm := Lib.hid (fun w' (g : Grew wk w') => rbsame_any (oX oo) (oX oo) _ _ (oL oo) (oL oo) w' (m1k.grew g).rd (m3k.grew g).rd (by omega) (by omega))
      rw [show decide (oX oo = oX oo ∧ oL oo = oL oo) = true by simp] at HSm
      unfold vbl at HPl HSm
      have gz : Grew wk wk.drew := Keeps.drew (Grew.refl wk)
      have cZ := hS wk.drew gz
      have tE : (oE oo != oE oo) = false := by simp
      have GWK := Lib.hid (hGr.trans gwk)
      generalize oE oo = eo at *
      generalize oX oo = xo at *
      clear hS m1k m3k bbk bk kk mbd md bd bbd gwd gwk gb ga gd
      go_region_held3 (fun w' => w'.cell? ⟨wa.heap.size, 0, none⟩ = some (.int .i64 xo.1) ∧ w'.cell? ⟨wa.heap.size, 1, none⟩ = some (.int .i64 xo.2.1) ∧ w'.cell? ⟨wa.heap.size, 2, none⟩ = some (.int .i64 xo.2.2.1) ∧ w'.cell? ⟨wa.heap.size, 3, none⟩ = some (.int .i64 xo.2.2.2) ∧ w'.cell? ⟨wa.heap.size, 4, none⟩ = some (.slice A1 n1 c1) ∧ w'.cell? ⟨wd.heap.size, 0, none⟩ = some (.int .i64 xo.1) ∧ w'.cell? ⟨wd.heap.size, 1, none⟩ = some (.int .i64 xo.2.1) ∧ w'.cell? ⟨wd.heap.size, 2, none⟩ = some (.int .i64 xo.2.2.1) ∧ w'.cell? ⟨wd.heap.size, 3, none⟩ = some (.int .i64 xo.2.2.2) ∧ w'.cell? ⟨wd.heap.size, 4, none⟩ = some (.slice A3 n3 c3)) (first | assumption | exact HS.out _ (by assumption) | exact HS.out _ (Keeps.drew (Grew.refl _)))
        (first | (go_at_call 59; (with_reducible refine (HPl.out wk.drew).mono ?_); rintro e wp ⟨rfl, gp⟩; have gA := gz.trans gp; have cA := HS.out wp gA) | (go_at_call 31; (with_reducible refine (HSm.out wp gA).mono ?_); rintro e wq ⟨rfl, gq⟩; have gB := gA.trans gq; have cB := HS.out wq gB))
      have gWq := GWK.out.trans gB
      clear HS cZ cA cB
      go_wp2_with fail
      go_roundw
      case rel => exact ⟨j + 1, by omega, by go_num, gWq⟩
      case measure => simp [intOf]; omega
    · have hGe := HGW.out.trans hGr
      have HL := Lib.hid (lives18_any wr (HT.out.on hGe) (HP.out.on hGe))
      go_wp2_with fail
      refine HL.out.mono ?_
      rintro e wz ⟨rfl, gz⟩
      go_wp2_with fail
      go_ret
      exact ⟨rfl, hGe.trans gz⟩
end Go.Proofs.YtjiiiimhegkklaaDoor
