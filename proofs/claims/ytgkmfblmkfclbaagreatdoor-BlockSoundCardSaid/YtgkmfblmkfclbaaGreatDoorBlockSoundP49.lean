/- block.Decode, walked. The hash tells two strings of bytes apart that differ in one byte. -/
import Derived.Test.YtgkmfblmkfclbaaGreatDoorBlockSoundP48
import Derived.Test.YtgkmfblmkfclbaaGreatDoorBlockSoundP13
namespace Go.Proofs.YtgkmfblmkfclbaaGreatDoor
open Go.RowKit Pl

set_option maxHeartbeats 12800000 in
set_option maxRecDepth 100000 in
theorem bdecode_any (v : Value) (bs : List Nat) (w : World) (h : Rd w w.heap.size v (bs.map vb)) (hb : Bytes bs) (hl : bs.length ≤ 100000) (ht : Tab w w.heap.size) (hp : PTab w w.heap.size) :
    Calls Tryz.prog 11 #[v] w (BDecPost w (decB bs)) := by
  have HG := Lib.hid ((Grew.refl w).alloc (.cells (cells5 zc (.slice none 0 0)).toArray 39))
  have HB := Lib.hid (Box.new w 39 (cells5 zc (.slice none 0 0)).toArray)
  have hsz : (w.alloc (.cells (cells5 zc (.slice none 0 0)).toArray 39)).heap.size = w.heap.size + 1 := by simp
  have HRd := Lib.hid (readR_any v bs (w.alloc (.cells (cells5 zc (.slice none 0 0)).toArray 39)) ((h.grew (Nat.le_refl _) HG.out).more (by omega)) hb (by omega))
  have HT := Lib.hid ht
  have HP := Lib.hid hp
  obtain ⟨A, n, c, rfl, hn, hc⟩ := h.form
  clear h hn ht hp
  obtain ⟨o, ho⟩ : ∃ o, o = decB bs := ⟨_, rfl⟩
  rw [← ho]
  have HO := Lib.hid ho
  clear ho
  go_enter Tryz.func11, Tryz.ntmps11
  go_upto_region 1 with fail
  change Code.wp _ _ _ _ (w.alloc (.cells (cells5 zc (.slice none 0 0)).toArray 39))
  generalize w.alloc (.cells (cells5 zc (.slice none 0 0)).toArray 39) = w1 at *
  go_wp2_with fail
  refine HRd.out.mono ?_
  rintro e wA ⟨gA, uA, rfl, WA, hgA, kA⟩
  have hGA := HG.out.trans kA
  have bA := HB.out.grew kA
  have hgAl := WA.box.lt
  have HRw := Lib.hid (rawR_any gA _ uA bs 0 0 wA WA)
  rw [show stP bs 0 0 = .inr bs from rfl] at HRw
  obtain ⟨r, hr⟩ : ∃ r, sRaw (.inr bs) = r := ⟨_, rfl⟩
  rw [hr] at HRw
  have HR := Lib.hid hr
  clear HRd HG HB WA kA hr
  go_wp2_with fail
  refine HRw.out.mono ?_
  rintro e wB ⟨uB, rfl, mB, kB, aB, eB, WB, sB⟩
  obtain ⟨AB, nB, cB, rfl, -⟩ := mB.slice
  have hGB : Grew w wB := Keeps.then_ hGA kB (fun i hi e => by omega)
  have bB := bA.keep kB (by omega)
  have hsB := kB.size
  have HUi := Lib.hid (uintR_any gA _ uA bs aB eB wB WB)
  rw [sB] at HUi
  obtain ⟨u, hu⟩ : ∃ u, sU r.2 = u := ⟨_, rfl⟩
  rw [hu] at HUi
  have HU := Lib.hid hu
  have hcoreL : r.1.length ≤ bs.length := sRaw_len HR.out
  have hcoreB : Bytes r.1 := sRaw_bytes HR.out hb
  clear HRw WB kB sB bA hGA hu
  go_wp2_with fail
  refine HUi.out.mono ?_
  rintro e wC ⟨rfl, kC, aC, eC, WC, sC⟩
  have hGC : Grew w wC := Keeps.then_ hGB kC (fun i hi e => by omega)
  have bC := bB.keep kC (by omega)
  have mC := mB.keep kC (fun k e e2 => by have := (mB.lt k e).1; omega)
  have hsC := kC.size
  have HEn := Lib.hid (endR_any gA _ uA bs aC eC wC WC)
  rw [sC] at HEn
  clear HUi WC kC sC bB hGB mB
  go_wp2_with fail
  refine HEn.out.mono ?_
  rintro e wD ⟨rfl, nD, hD⟩
  have gD : Grew wC wD := by rw [hD]; exact (Grew.refl wC).drewN nD
  have hGD := hGC.trans gD
  have bD := bC.grew gD
  have mD := mC.grew gD
  have hsD := gD.size
  clear HEn hD gD bC hGC mC
  by_cases hE : sEnd u.2 ≠ 0
  · have hoo := HO.out
    rw [decB_end HR.out HU.out hE] at hoo
    have HOO := Lib.hid hoo
    have t0 : (sEnd u.2 != 0) = true := by simpa using hE
    clear hoo hE HO
    generalize sEnd u.2 = es at *
    go_wp2_with (refine st5 39 infoB (.tmp 2) (.tmp 21) w.heap.size zc zc (.slice none 0 0) (.slice none 0 0) 39 rfl rfl rfl rfl rfl bD ?_; intro wz hbz hkz)
    have hGz : Grew w wz := Keeps.then_ hGD hkz (fun i hi e => by omega)
    exact bodyPost_ret (v := .tuple #[vbl zc (.slice none 0 0), .int .i64 2]) (results_cell5_2 rfl rfl rfl infoB Tryz.underlying39 rfl hbz) rfl (by rw [HOO.out]; exact ⟨hGz, rfl⟩)
  have hE0 : sEnd u.2 = 0 := by simpa using hE
  have t0 : (sEnd u.2 != 0) = false := by rw [hE0]; rfl
  have HE := Lib.hid hE0
  clear hE hE0
  rw [HE.out]
  have HSu := Lib.hid (sum_any _ r.1 wD mD.rd hcoreB (by omega))
  have hub : u.1 < 18446744073709551616 := by rw [← HU.out]; exact sU_lt _
  obtain ⟨hh, hhd⟩ : ∃ hh, hh = hashB blockL r.1 := ⟨_, rfl⟩
  rw [← hhd] at HSu
  have HH := Lib.hid hhd
  have hhl : hh < 18446744073709551616 := by rw [hhd]; exact hashB_lt _ _
  clear hhd
  go_wp2_with fail
  refine HSu.out.mono ?_
  rintro e wE ⟨rfl, gE⟩
  have hGE := hGD.trans gE
  have bE := bD.grew gE
  have mE := mD.grew gE
  have hsE := gE.size
  clear HSu gE bD hGD mD
  by_cases hS : u.1 ≠ hh
  · have hoo := HO.out
    rw [decB_sum HR.out HU.out HE.out (by rw [← HH.out]; exact hS)] at hoo
    have HOO := Lib.hid hoo
    have t1 : ((u.1 : Int) != (hh : Int)) = true := by rw [bne_iff_ne]; omega
    have t1n : (u.1 != hh) = true := by rw [bne_iff_ne]; omega
    clear hoo hS HO
    generalize u.1 = us at *
    go_wp2_with (refine st5 39 infoB (.tmp 2) (.tmp 26) w.heap.size zc zc (.slice none 0 0) (.slice none 0 0) 39 rfl rfl rfl rfl rfl bE ?_; intro wz hbz hkz)
    have hGz : Grew w wz := Keeps.then_ hGE hkz (fun i hi e => by omega)
    exact bodyPost_ret (v := .tuple #[vbl zc (.slice none 0 0), .int .i64 11]) (results_cell5_2 rfl rfl rfl infoB Tryz.underlying39 rfl hbz) rfl (by rw [HOO.out]; exact ⟨hGz, rfl⟩)
  have hS0 : u.1 = hh := by omega
  have hoo := HO.out
  rw [decB_in HR.out HU.out HE.out (by rw [← HH.out]; exact hS0)] at hoo
  have HOI := Lib.hid hoo
  have t1 : ((u.1 : Int) != (hh : Int)) = false := by rw [hS0]; simp
  have t1n : (u.1 != hh) = false := by rw [hS0]; simp
  clear hoo hS hS0 HO HH HE HU HR t0
  generalize u.1 = us at *
  generalize r.1 = core at *
  have HRd := Lib.hid (readR_any _ core wE mE.rd hcoreB (by omega))
  go_wp2_with fail
  refine HRd.out.mono ?_
  rintro e wF ⟨gF, uF, rfl, WF, hgF, kF⟩
  have hGF := hGE.trans kF
  have bF := bE.grew kF
  have hgFl := WF.box.lt
  have hltE := bE.lt
  clear HRd kF bE hGE mE
  have HII1 := Lib.hid (intR_any gF _ uF core 0 0 wF WF)
  rw [show stP core 0 0 = .inr core from rfl] at HII1
  obtain ⟨pI1, hpI1⟩ : ∃ pI1, sI (.inr core) = pI1 := ⟨_, rfl⟩
  rw [hpI1] at HII1
  have HPI1 := Lib.hid hpI1
  clear hpI1
  go_wp2_with fail
  refine HII1.out.mono ?_
  rintro e wI1 ⟨rfl, kI1, aI1, eI1, WI1, sI1⟩
  have hGI1 : Grew w wI1 := Keeps.then_ hGF kI1 (fun i hi e => by omega)
  have bI1 := bF.keep kI1 (by omega)
  have hsI1 := kI1.size
  clear HII1 kI1 bF hGF WF
  have HII2 := Lib.hid (intR_any gF _ uF core aI1 eI1 wI1 WI1)
  rw [sI1] at HII2
  obtain ⟨pI2, hpI2⟩ : ∃ pI2, sI pI1.2 = pI2 := ⟨_, rfl⟩
  rw [hpI2] at HII2
  have HPI2 := Lib.hid hpI2
  clear hpI2
  go_wp2_with fail
  refine HII2.out.mono ?_
  rintro e wI2 ⟨rfl, kI2, aI2, eI2, WI2, sI2⟩
  have hGI2 : Grew w wI2 := Keeps.then_ hGI1 kI2 (fun i hi e => by omega)
  have bI2 := bI1.keep kI2 (by omega)
  have hsI2 := kI2.size
  clear HII2 kI2 bI1 hGI1 WI1 sI1
  have HII3 := Lib.hid (intR_any gF _ uF core aI2 eI2 wI2 WI2)
  rw [sI2] at HII3
  obtain ⟨pI3, hpI3⟩ : ∃ pI3, sI pI2.2 = pI3 := ⟨_, rfl⟩
  rw [hpI3] at HII3
  have HPI3 := Lib.hid hpI3
  clear hpI3
  go_wp2_with fail
  refine HII3.out.mono ?_
  rintro e wI3 ⟨rfl, kI3, aI3, eI3, WI3, sI3⟩
  have hGI3 : Grew w wI3 := Keeps.then_ hGI2 kI3 (fun i hi e => by omega)
  have bI3 := bI2.keep kI3 (by omega)
  have hsI3 := kI3.size
  clear HII3 kI3 bI2 hGI2 WI2 sI2
  have HII4 := Lib.hid (intR_any gF _ uF core aI3 eI3 wI3 WI3)
  rw [sI3] at HII4
  obtain ⟨pI4, hpI4⟩ : ∃ pI4, sI pI3.2 = pI4 := ⟨_, rfl⟩
  rw [hpI4] at HII4
  have HPI4 := Lib.hid hpI4
  clear hpI4
  go_wp2_with fail
  refine HII4.out.mono ?_
  rintro e wI4 ⟨rfl, kI4, aI4, eI4, WI4, sI4⟩
  have hGI4 : Grew w wI4 := Keeps.then_ hGI3 kI4 (fun i hi e => by omega)
  have bI4 := bI3.keep kI4 (by omega)
  have hsI4 := kI4.size
  clear HII4 kI4 bI3 hGI3 WI3 sI3
  have hltL := bI4.lt
  go_wp2_with (refine st5 39 infoB (.tmp 8) (.tmp 37) wI4.heap.size (pI1.1, pI2.1, pI3.1, pI4.1) zc (.slice none 0 0) (.slice none 0 0) 39 rfl rfl rfl rfl rfl (Box.new wI4 39 (cells5 zc (.slice none 0 0)).toArray) ?_; intro wM b8 kM)
  have hGM : Grew w wM := Keeps.then_ (hGI4.alloc _) kM (fun i hi e => by have := hGI4.size; omega)
  have bM := (bI4.alloc (.cells (cells5 zc (.slice none 0 0)).toArray 39)).keep kM (by omega)
  have gL0 : Grew wI4 (wI4.alloc (.cells (cells5 zc (.slice none 0 0)).toArray 39)) := (Grew.refl wI4).alloc _
  have hgFL := WI4.box.lt
  have WM : WR wM wE.heap.size gF uF core aI4 eI4 := ⟨(WI4.grew gL0).box.keep kM (by omega), (WI4.grew gL0).row.keep kM (fun k e e2 => by have := (WI4.row.lt k e).2; omega), WI4.bytes, WI4.small, WI4.here⟩
  have hsM := kM.size
  rw [World.size_alloc] at hsM
  have HRw := Lib.hid (rawR_any gF _ uF core aI4 eI4 wM WM)
  rw [sI4] at HRw
  obtain ⟨q, hq⟩ : ∃ q, sRaw pI4.2 = q := ⟨_, rfl⟩
  rw [hq] at HRw
  have HQ := Lib.hid hq
  have hqB : Bytes q.1 := by rw [← hq, ← sI4]; exact sRaw_bytes' _ _ _ hcoreB
  have hqL : q.1.length ≤ core.length := by rw [← hq, ← sI4]; exact sRaw_len' _ _ _
  clear hq WI4 gL0 kM bI4 hGI4 sI4 WM
  refine HRw.out.mono ?_
  rintro e wN ⟨uN, rfl, mN, kN, aN, eN, WN, sN⟩
  obtain ⟨AN, nN, cN, rfl, -⟩ := mN.slice
  have hGN : Grew w wN := Keeps.then_ hGM kN (fun i hi e => by omega)
  have bN := bM.keep kN (by omega)
  have b8N := b8.keep kN (by omega)
  have hsN := kN.size
  have HEn := Lib.hid (endR_any gF _ uF core aN eN wN WN)
  rw [sN] at HEn
  clear HRw WN kN sN bM hGM b8
  go_wp2_with fail
  refine HEn.out.mono ?_
  rintro e wO ⟨rfl, nO, hOw⟩
  have gO : Grew wN wO := by rw [hOw]; exact (Grew.refl wN).drewN nO
  have hGO := hGN.trans gO
  have bO := bN.grew gO
  have b8O := b8N.grew gO
  have mO := mN.grew gO
  have hsO := gO.size
  clear HEn hOw gO bN hGN mN b8N
  by_cases hE : sEnd q.2 ≠ 0
  · have hoo := HOI.out
    rw [inB_end HPI1.out HPI2.out HPI3.out HPI4.out HQ.out hE] at hoo
    have HOO := Lib.hid hoo
    have t0 : (sEnd q.2 != 0) = true := by simpa using hE
    clear hoo hE HOI
    generalize sEnd q.2 = es at *
    go_wp2_with (refine st5 39 infoB (.tmp 2) (.tmp 43) w.heap.size zc zc (.slice none 0 0) (.slice none 0 0) 39 rfl rfl rfl rfl rfl bO ?_; intro wz hbz hkz)
    have hGz : Grew w wz := Keeps.then_ hGO hkz (fun i hi e => by omega)
    exact bodyPost_ret (v := .tuple #[vbl zc (.slice none 0 0), .int .i64 2]) (results_cell5_2 rfl rfl rfl infoB Tryz.underlying39 rfl hbz) rfl (by rw [HOO.out]; exact ⟨hGz, rfl⟩)
  have hE0 : sEnd q.2 = 0 := by simpa using hE
  have HE := Lib.hid hE0
  clear hE hE0
  rw [HE.out]
  have HDe := Lib.hid (decode_any _ q.1 wO mO.rd hqB (by omega) (HT.out.on hGO))
  rw [decode_eq_ref _ hqB] at HDe
  cases hdec : refDecode q.1 with
  | none =>
    rw [hdec] at HDe
    have hoo := HOI.out
    rw [inB_none HPI1.out HPI2.out HPI3.out HPI4.out HQ.out HE.out hdec] at hoo
    have HOO := Lib.hid hoo
    clear hoo HOI hdec
    go_wp2_with fail
    refine HDe.out.mono ?_
    rintro e wQ ⟨gQ, rfl⟩
    have hGQ := hGO.trans gQ
    have bQ := bO.grew gQ
    go_wp2_with (refine st5 39 infoB (.tmp 2) (.tmp 51) w.heap.size zc zc (.slice none 0 0) (.slice none 0 0) 39 rfl rfl rfl rfl rfl bQ ?_; intro wz hbz hkz)
    have hGz : Grew w wz := Keeps.then_ hGQ hkz (fun i hi e => by omega)
    exact bodyPost_ret (v := .tuple #[vbl zc (.slice none 0 0), .int .i64 2]) (results_cell5_2 rfl rfl rfl infoB Tryz.underlying39 rfl hbz) rfl (by rw [HOO.out]; exact ⟨hGz, rfl⟩)
  | some l =>
    rw [hdec] at HDe
    have HDC := Lib.hid hdec
    clear hdec
    go_wp2_with fail
    refine HDe.out.mono ?_
    rintro e wQ ⟨gQ, vQ, rfl, mQ⟩
    obtain ⟨AQ, nQ, cQ, rfl, -⟩ := mQ.slice
    have hGQ := hGO.trans gQ
    have bQ := bO.grew gQ
    have b8Q := b8O.grew gQ
    have hlt8 := b8O.lt
    have hsQ := gQ.size
    have hVa := fun w' (g : Grew w w') => valid_any (pI1.1, pI2.1, pI3.1, pI4.1) AQ nQ cQ w' (HP.out.on g)
    unfold vbl at hVa
    have HVa := Lib.hid hVa
    clear HDe gQ bO b8O hGO mO hVa
    go_wp2_with (first | (refine stv5 (.tmp 53) (.tmp 52) wI4.heap.size AQ nQ cQ (pI1.1, pI2.1, pI3.1, pI4.1) (.slice none 0 0) 39 rfl rfl rfl rfl b8Q ?_; intro wR b8R kR) | (refine ld5v' 39 infoB Tryz.underlying39 rfl (.tmp 8) wI4.heap.size (pI1.1, pI2.1, pI3.1, pI4.1) (.slice AQ nQ cQ) 39 rfl rfl rfl b8R ?_))
    have hGR : Grew w wR := Keeps.then_ hGQ kR (fun i hi e => by omega)
    have bR := bQ.keep kR (by omega)
    have mR := mQ.keep kR (fun k e e2 => mQ.ne_box e b8Q (by decide) e2)
    have hsR := kR.size
    clear kR b8Q bQ hGQ mQ
    refine (HVa.out wR hGR).mono ?_
    rintro e wS ⟨rfl, gS⟩
    have hGS := hGR.trans gS
    have bS := bR.grew gS
    have b8S := b8R.grew gS
    have mS := mR.grew gS
    have hlt8S := b8R.lt
    clear HVa gS b8R bR hGR mR
    by_cases hok : okB (pI1.1, pI2.1, pI3.1, pI4.1)
    · have hoo := HOI.out
      rw [inB_ok HPI1.out HPI2.out HPI3.out HPI4.out HQ.out HE.out HDC.out hok] at hoo
      have HOO := Lib.hid hoo
      rw [decide_eq_true hok]
      clear hoo HOI hok
      go_wp2_with (first | (refine ld5v' 39 infoB Tryz.underlying39 rfl (.tmp 8) wI4.heap.size (pI1.1, pI2.1, pI3.1, pI4.1) (.slice AQ nQ cQ) 39 rfl rfl rfl b8S ?_) | (refine st5 39 infoB (.tmp 2) (.tmp 58) w.heap.size (pI1.1, pI2.1, pI3.1, pI4.1) zc (.slice AQ nQ cQ) (.slice none 0 0) 39 rfl rfl rfl rfl rfl bS ?_; intro wz hbz hkz))
      have hGz : Grew w wz := Keeps.then_ hGS hkz (fun i hi e => by omega)
      have mz := mS.keep hkz (fun k e e2 => mS.ne_box e bS (by decide) e2)
      exact bodyPost_ret (v := .tuple #[vbl (pI1.1, pI2.1, pI3.1, pI4.1) (.slice AQ nQ cQ), .int .i64 0]) (results_cell5_2 rfl rfl rfl infoB Tryz.underlying39 rfl hbz) rfl (by rw [HOO.out]; exact ⟨hGz, _, rfl, mz.base_le (by omega)⟩)
    · have hoo := HOI.out
      rw [inB_bad HPI1.out HPI2.out HPI3.out HPI4.out HQ.out HE.out HDC.out hok] at hoo
      have HOO := Lib.hid hoo
      rw [decide_eq_false hok]
      clear hoo HOI hok
      go_wp2_with (refine st5 39 infoB (.tmp 2) (.tmp 57) w.heap.size zc zc (.slice none 0 0) (.slice none 0 0) 39 rfl rfl rfl rfl rfl bS ?_; intro wz hbz hkz)
      have hGz : Grew w wz := Keeps.then_ hGS hkz (fun i hi e => by omega)
      exact bodyPost_ret (v := .tuple #[vbl zc (.slice none 0 0), .int .i64 1]) (results_cell5_2 rfl rfl rfl infoB Tryz.underlying39 rfl hbz) rfl (by rw [HOO.out]; exact ⟨hGz, rfl⟩)
end Go.Proofs.YtgkmfblmkfclbaaGreatDoor
namespace Go.Proofs.YtgkmfblmkfclbaaGreatDoor.Pl

theorem fold_inj {a b : Nat} (ha : a < 18446744073709551616) (hb : b < 18446744073709551616) (h : a ^^^ (a / 4294967296) = b ^^^ (b / 4294967296)) : a = b := by
  have key : ∀ x : Nat, x < 18446744073709551616 → (x ^^^ (x / 4294967296)) >>> 32 = x >>> 32 := fun x hx => by
    rw [Nat.shiftRight_xor_distrib]
    have : (x / 4294967296) >>> 32 = 0 := by rw [Nat.shiftRight_eq_div_pow]; omega
    rw [this, Nat.xor_zero]
  have h1 : (a ^^^ (a / 4294967296)) >>> 32 = (b ^^^ (b / 4294967296)) >>> 32 := by rw [h]
  rw [key a ha, key b hb, Nat.shiftRight_eq_div_pow, Nat.shiftRight_eq_div_pow] at h1
  have e : (2 : Nat) ^ 32 = 4294967296 := by decide
  rw [e] at h1
  rw [h1] at h
  have h2 := congrArg (· ^^^ (b / 4294967296)) h
  simpa [Nat.xor_assoc] using h2
theorem odd_inj {x y : Nat} (hx : x < 18446744073709551616) (hy : y < 18446744073709551616) (h : x * 11400714819323198485 % 18446744073709551616 = y * 11400714819323198485 % 18446744073709551616) : x = y := by
  have key : ∀ z : Nat, z < 18446744073709551616 → (z * 11400714819323198485 % 18446744073709551616) * 17428512612931826493 % 18446744073709551616 = z := fun z hz => by
    rw [Nat.mod_mul_mod, Nat.mul_assoc]
    have : 11400714819323198485 * 17428512612931826493 = 18446744073709551616 * (11400714819323198485 * 17428512612931826493 / 18446744073709551616) + 1 := by decide
    rw [this, Nat.mul_add, Nat.mul_one, ← Nat.mul_assoc, Nat.mul_comm z, Nat.mul_assoc, Nat.mul_add_mod]
    exact Nat.mod_eq_of_lt hz
  rw [← key x hx, ← key y hy, h]
theorem mixN_inj {s w s' w' : Nat} (h1 : s < 18446744073709551616) (h2 : w < 18446744073709551616) (h3 : s' < 18446744073709551616) (h4 : w' < 18446744073709551616) (h : mixN s w = mixN s' w') : s ^^^ w = s' ^^^ w' := by
  unfold mixN at h
  have a1 : s ^^^ w < 2 ^ 64 := Nat.xor_lt_two_pow (by omega) (by omega)
  have a2 : s' ^^^ w' < 2 ^ 64 := Nat.xor_lt_two_pow (by omega) (by omega)
  generalize s ^^^ w = x at *
  generalize s' ^^^ w' = y at *
  exact odd_inj (by omega) (by omega) (fold_inj (Nat.mod_lt _ (by omega)) (Nat.mod_lt _ (by omega)) h)
theorem mixN_left {s s' w : Nat} (h1 : s < 18446744073709551616) (h3 : s' < 18446744073709551616) (h2 : w < 18446744073709551616) (h : mixN s w = mixN s' w) : s = s' := by
  have h5 := mixN_inj h1 h2 h3 h2 h
  have h6 := congrArg (· ^^^ w) h5
  simpa [Nat.xor_assoc] using h6
theorem mixN_right {s w w' : Nat} (h1 : s < 18446744073709551616) (h2 : w < 18446744073709551616) (h3 : w' < 18446744073709551616) (h : mixN s w = mixN s w') : w = w' := by
  have h5 := mixN_inj h1 h2 h1 h3 h
  have h6 := congrArg (s ^^^ ·) h5
  simpa [← Nat.xor_assoc] using h6
theorem mixAll_cons (s x : Nat) (l : List Nat) : mixAll s (x :: l) = mixAll (mixN s x) l := by unfold mixAll; rw [List.foldl_cons]
theorem mixAll_lt (l : List Nat) : ∀ s, s < 18446744073709551616 → mixAll s l < 18446744073709551616 := by
  induction l with
  | nil => intro s hs; rw [mixAll_nil]; exact hs
  | cons x l ih => intro s _; rw [mixAll_cons]; exact ih _ (mixN_lt _ _)
theorem mixAll_left (l : List Nat) : ∀ s s', s < 18446744073709551616 → s' < 18446744073709551616 → (∀ x ∈ l, x < 18446744073709551616) → mixAll s l = mixAll s' l → s = s' := by
  induction l with
  | nil => intro s s' _ _ _ h; rw [mixAll_nil, mixAll_nil] at h; exact h
  | cons x l ih =>
    intro s s' hs hs' hl h
    rw [mixAll_cons, mixAll_cons] at h
    exact mixN_left hs hs' (hl x (by simp)) (ih _ _ (mixN_lt _ _) (mixN_lt _ _) (fun y hy => hl y (by simp [hy])) h)
theorem mixAll_set (l : List Nat) : ∀ s i x, s < 18446744073709551616 → (∀ x ∈ l, x < 18446744073709551616) → x < 18446744073709551616 → i < l.length → mixAll s (l.set i x) = mixAll s l → l[i]? = some x := by
  induction l with
  | nil => intro s i x _ _ _ h; simp at h
  | cons y l ih =>
    intro s i x hs hl hx hi h
    have hy := hl y (by simp)
    have hl' : ∀ x ∈ l, x < 18446744073709551616 := fun z hz => hl z (by simp [hz])
    cases i with
    | zero =>
      rw [List.set_cons_zero, mixAll_cons, mixAll_cons] at h
      have h1 := mixAll_left l _ _ (mixN_lt _ _) (mixN_lt _ _) hl' h
      have h2 := mixN_right hs hx hy h1
      rw [h2]; rfl
    | succ i =>
      rw [List.set_cons_succ, mixAll_cons, mixAll_cons] at h
      rw [List.getElem?_cons_succ]
      exact ih _ i x (mixN_lt _ _) hl' hx (by simpa using hi) h
theorem leN_inj (l : List Nat) : ∀ l' : List Nat, Bytes l → Bytes l' → l.length = l'.length → leN l = leN l' → l = l' := by
  induction l with
  | nil => intro l' _ _ h _; exact (List.eq_nil_of_length_eq_zero h.symm).symm
  | cons x l ih =>
    intro l' hb hb' h he
    rcases l' with _ | ⟨y, l'⟩
    · cases h
    · have h1 := hb x (by simp)
      have h2 := hb' y (by simp)
      rw [leN, leN] at he
      rw [ih l' (fun z hz => hb z (by simp [hz])) (fun z hz => hb' z (by simp [hz])) (by simpa using h) (by omega), show x = y by omega]
theorem chunk_getElem? (bs : List Nat) (i t : Nat) : (chunk bs i)[t]? = if t < 8 then bs[8 * i + t]? else none := by
  unfold chunk
  rw [List.getElem?_take, List.getElem?_drop]
theorem bytes_set {bs : List Nat} (h : Bytes bs) (j : Nat) {y : Nat} (hy : y < 256) : Bytes (bs.set j y) := fun x hx => by
  rcases List.mem_or_eq_of_mem_set hx with h1 | h1
  · exact h x h1
  · omega
theorem words_set (bs : List Nat) (j y : Nat) : words (bs.set j y) = (words bs).set (j / 8) (leN (chunk (bs.set j y) (j / 8))) := by
  apply List.ext_getElem?
  intro i
  rw [List.getElem?_set]
  have hn : nwords (bs.set j y) = nwords bs := by unfold nwords; rw [List.length_set]
  have hw : ∀ l : List Nat, (words l)[i]? = if i < nwords l then some (leN (chunk l i)) else none := fun l => by
    unfold words
    rw [List.getElem?_map]
    by_cases h : i < nwords l
    · rw [List.getElem?_range h, if_pos h]; rfl
    · rw [List.getElem?_eq_none (by simpa using h), if_neg h]; rfl
  rw [hw, hw, hn, words_length]
  by_cases hi : i < nwords bs
  · rw [if_pos hi]
    by_cases hj : j / 8 = i
    · subst hj
      rw [if_pos rfl, if_pos hi]
    · rw [if_neg hj, if_pos hi]
      congr 2
      apply List.ext_getElem?
      intro t
      rw [chunk_getElem?, chunk_getElem?]
      by_cases ht : t < 8
      · rw [if_pos ht, if_pos ht, List.getElem?_set, if_neg (by omega)]
      · rw [if_neg ht, if_neg ht]
  · rw [if_neg hi]
    by_cases hj : j / 8 = i
    · rw [if_pos hj, if_neg (by omega)]
    · rw [if_neg hj, if_neg hi]
theorem hashB_set (label : List Nat) {bs : List Nat} (h : Bytes bs) (hl : bs.length < 18446744073709551616) {j y : Nat} (hj : j < bs.length) (hy : y < 256) (he : hashB label (bs.set j y) = hashB label bs) : bs[j]? = some y := by
  unfold hashB hashSum at he
  rw [words_set, List.length_set] at he
  generalize hx : leN (chunk (bs.set j y) (j / 8)) = x at he
  have hxl : x < 18446744073709551616 := by rw [← hx]; exact chunk_lt (bytes_set h j hy) _
  have hlen : ((words bs).set (j / 8) x ++ [bs.length]).length = (words bs ++ [bs.length]).length := by simp
  rw [hlen] at he
  have hs := mixN_lt (mixN (mixAll 0 (words label)) label.length) (words bs ++ [bs.length]).length
  generalize mixN (mixN (mixAll 0 (words label)) label.length) (words bs ++ [bs.length]).length = s at he hs
  rw [mixAll_snoc, mixAll_snoc] at he
  have h1 := mixN_left (mixN_lt _ _) (mixN_lt _ _) (by decide) he
  have h2 := mixN_left (mixAll_lt _ _ hs) (mixAll_lt _ _ hs) hl h1
  have h3 := mixAll_set (words bs) s (j / 8) x hs (words_lt h) hxl (by rw [words_length]; unfold nwords; omega) h2
  have h4 : (words bs)[j / 8]? = some (leN (chunk bs (j / 8))) := by
    unfold words
    rw [List.getElem?_map, List.getElem?_range (by unfold nwords; omega)]; rfl
  rw [h4] at h3
  injection h3 with h3
  rw [← hx] at h3
  have h5 := leN_inj _ _ (chunk_bytes h _) (chunk_bytes (bytes_set h j hy) _) (by rw [chunk_length, chunk_length, List.length_set]) h3
  have h6 := congrArg (fun l => l[j % 8]?) h5
  simp only [chunk_getElem?] at h6
  rw [if_pos (by omega), if_pos (by omega), show 8 * (j / 8) + j % 8 = j by omega, List.getElem?_set, if_pos rfl, if_pos hj] at h6
  exact h6
end Go.Proofs.YtgkmfblmkfclbaaGreatDoor.Pl
