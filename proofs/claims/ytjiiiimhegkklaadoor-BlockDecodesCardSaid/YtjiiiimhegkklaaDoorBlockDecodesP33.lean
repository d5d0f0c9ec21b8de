/- The reference's Decode of a block, walked. -/
import Derived.Test.YtjiiiimhegkklaaDoorBlockDecodesP29
import Derived.Test.YtjiiiimhegkklaaDoorBlockDecodesP31
import Derived.Test.YtjiiiimhegkklaaDoorBlockDecodesP32
import Derived.Test.YtjiiiimhegkklaaDoorBlockDecodesP28
namespace Go.Proofs.YtjiiiimhegkklaaDoor
open Go.RowKit Pl

theorem sRaw_lenF (t : List Nat) (er : Int) : (sRaw (stF t er)).1.length ≤ t.length := by
  by_cases h : er = 0
  · rw [h, stF_ok]; exact (sRaw_sub t).1
  · rw [stF_err t h, sRaw_err (sU_inl er)]; simp
theorem sRaw_bytesF (t : List Nat) (er : Int) (hb : Bytes t) : Bytes (sRaw (stF t er)).1 := by
  by_cases h : er = 0
  · rw [h, stF_ok]; exact fun x hx => hb x ((sRaw_sub t).2 x hx)
  · rw [stF_err t h, sRaw_err (sU_inl er)]; exact fun x hx => by simp at hx
theorem sI_small {t t' : List Nat} {er er' : Int} (h : stF t' er' = (sI (stF t er)).2) (h0 : er' = 0) : t'.length ≤ t.length ∧ (Bytes t → Bytes t') := by
  rw [h0, stF_ok] at h
  by_cases he : er = 0
  · rw [he, stF_ok] at h
    unfold sI at h
    cases hu : uP 0 0 t with
    | inl e => rw [sU_err hu] at h; cases h
    | inr p =>
      obtain ⟨n, s⟩ := p
      rw [sU_ok hu] at h
      injection h with h
      subst h
      obtain ⟨h1, h2⟩ := uP_rest hu
      exact ⟨h1, fun hb x hx => hb x (h2 x hx)⟩
  · rw [stF_err t he] at h
    unfold sI at h
    rw [sU_inl] at h
    cases h
theorem sI_rest (s : RSt) : (∀ e, s ≠ .inl e → True) ∧ (∀ t, (sI s).2 = .inr t → ∃ t0, s = .inr t0 ∧ t.length ≤ t0.length) := by
  refine ⟨fun _ _ => trivial, fun t h => ?_⟩
  rcases s with e | t0
  · unfold sI at h; rw [sU_inl] at h; cases h
  · refine ⟨t0, rfl, ?_⟩
    unfold sI at h
    cases hu : uP 0 0 t0 with
    | inl e => rw [sU_err hu] at h; cases h
    | inr p =>
      obtain ⟨n, s⟩ := p
      rw [sU_ok hu] at h
      injection h with h
      subst h
      exact (uP_rest hu).1
theorem sRaw_inl_len (e : Int) : (sRaw (.inl e)).1.length = 0 := by rw [sRaw_err (sU_inl e)]; rfl
theorem qlen {core : List Nat} {a b c d : Int × RSt} {r : List Nat × RSt} (h1 : sI (.inr core) = a) (h2 : sI a.2 = b) (h3 : sI b.2 = c) (h4 : sI c.2 = d) (h5 : sRaw d.2 = r) : r.1.length ≤ core.length := by
  rcases hd : d.2 with e | t4
  · rw [← h5, hd, sRaw_inl_len]; omega
  · rw [← h5, hd]
    have l5 := (sRaw_sub t4).1
    obtain ⟨t3, e3, l4⟩ := (sI_rest c.2).2 t4 (by rw [h4]; exact hd)
    obtain ⟨t2, e2, l3⟩ := (sI_rest b.2).2 t3 (by rw [h3]; exact e3)
    obtain ⟨t1, e1, l2⟩ := (sI_rest a.2).2 t2 (by rw [h2]; exact e2)
    obtain ⟨t0, e0, l1⟩ := (sI_rest (.inr core)).2 t1 (by rw [h1]; exact e1)
    injection e0 with e0
    subst e0
    omega
set_option maxHeartbeats 12800000 in
set_option maxRecDepth 100000 in
theorem rbdecode_any (v : Value) (bs : List Nat) (w : World) (h : Rd w w.heap.size v (bs.map vb)) (hnil : ∀ n c, v = .slice none n c → c = 0) (hb : Bytes bs) (hl : bs.length ≤ 100000) :
    Calls Tryd.prog 58 #[v] w (BDecPost w (decB bs)) := by
  have HG := Lib.hid ((Grew.refl w).alloc (.cells (cells5 zc (.slice none 0 0)).toArray 27))
  have HB := Lib.hid (Box.new w 27 (cells5 zc (.slice none 0 0)).toArray)
  have hsz : (w.alloc (.cells (cells5 zc (.slice none 0 0)).toArray 27)).heap.size = w.heap.size + 1 := by simp
  have h1 := (h.grew (Nat.le_refl _) HG.out).more (B' := w.heap.size + 1) (by omega)
  obtain ⟨A, n, c, rfl, hn, hc⟩ := h.form
  clear h hn
  obtain ⟨o, ho⟩ : ∃ o, o = decB bs := ⟨_, rfl⟩
  rw [← ho]
  have HO := Lib.hid ho
  clear ho
  go_enter Tryd.func58, Tryd.ntmps58
  go_upto_region 1 with fail
  change Code.wp _ _ _ _ (w.alloc (.cells (cells5 zc (.slice none 0 0)).toArray 27))
  generalize w.alloc (.cells (cells5 zc (.slice none 0 0)).toArray 27) = w1 at *
  have gA0 : Grew w1 (w1.alloc (.cells #[.slice A n c, .int .i64 0] 139)) := (Grew.refl w1).alloc _
  have WA : RF (w1.alloc (.cells #[.slice A n c, .int .i64 0] 139)) w1.heap.size (.slice A n c) bs 0 := ⟨Box.new w1 139 _, (h1.grew (by omega) gA0).more (by omega), hb, by omega, hnil⟩
  have hGA := HG.out.trans gA0
  have bA := HB.out.grew gA0
  have HRw := Lib.hid (rawF_any w1.heap.size _ bs 0 _ WA)
  rw [show stF bs 0 = .inr bs from rfl] at HRw
  obtain ⟨r, hr⟩ : ∃ r, sRaw (.inr bs) = r := ⟨_, rfl⟩
  rw [hr, hsz] at HRw
  have HR := Lib.hid hr
  have hszA : (w1.alloc (.cells #[.slice A n c, .int .i64 0] 139)).heap.size = w1.heap.size + 1 := by simp
  clear HG HB WA gA0 hr h1 hnil
  go_wp2_with fail
  generalize w1.alloc (.cells #[.slice A n c, .int .i64 0] 139) = wA at *
  refine HRw.out.mono ?_
  rintro e wB ⟨uB, rfl, mB, nB', kB, vB, tB, eB, WB, sB⟩
  obtain ⟨AB, nB, cB, rfl, -⟩ := mB.form
  have hGB : Grew w wB := Keeps.then_ hGA kB (fun i hi e => by omega)
  have bB := bA.keep kB (by omega)
  have hsB := kB.size
  have HUi := Lib.hid (uintF_any (w.heap.size + 1) vB tB eB wB WB)
  rw [sB] at HUi
  obtain ⟨u, hu⟩ : ∃ u, sU r.2 = u := ⟨_, rfl⟩
  rw [hu] at HUi
  have HU := Lib.hid hu
  have hcoreL : r.1.length ≤ bs.length := sRaw_len HR.out
  have hcoreB : Bytes r.1 := sRaw_bytes HR.out hb
  have HNB := Lib.hid nB'
  clear HRw WB kB sB bA hGA hu nB'
  go_wp2_with fail
  refine HUi.out.mono ?_
  rintro e wC ⟨rfl, kC, vC, tC, eC, WC, sC⟩
  have hGC : Grew w wC := Keeps.then_ hGB kC (fun i hi e => by omega)
  have bC := bB.keep kC (by omega)
  have mC := mB.keep (by omega) kC (fun i hi e => by omega)
  have hsC := kC.size
  have HEn := Lib.hid (endF_any (w.heap.size + 1) vC tC eC wC WC)
  rw [sC] at HEn
  clear HUi WC kC sC bB hGB mB
  go_wp2_with fail
  refine HEn.out.mono ?_
  rintro e w' ⟨rfl, hw'⟩
  rw [hw']; clear hw' w' HEn
  by_cases hE : sEnd u.2 ≠ 0
  · have hoo := HO.out
    rw [decB_end HR.out HU.out hE] at hoo
    have HOO := Lib.hid hoo
    have t0 : (sEnd u.2 != 0) = true := by simpa using hE
    clear hoo hE HO
    generalize sEnd u.2 = es at *
    go_wp2_with (refine st5 27 infoR (.tmp 2) (.tmp 23) w.heap.size zc zc (.slice none 0 0) (.slice none 0 0) 27 rfl rfl rfl rfl rfl bC ?_; intro wz hbz hkz)
    have hGz : Grew w wz := Keeps.then_ hGC hkz (fun i hi e => by omega)
    exact bodyPost_ret (v := .tuple #[vbl zc (.slice none 0 0), .int .i64 2]) (results_cell5_2 rfl rfl rfl infoR Tryd.underlying27 rfl hbz) rfl (by rw [HOO.out]; exact ⟨hGz, rfl⟩)
  have hE0 : sEnd u.2 = 0 := by simpa using hE
  have HE := Lib.hid hE0
  clear hE hE0
  rw [HE.out]
  have HSu := Lib.hid (rbytes_any ⟨#[98, 108, 111, 99, 107]⟩ blockL _ r.1 wC rfl blockL_bytes (by decide) (mC.more (by omega)) hcoreB (by omega))
  have hub : u.1 < 18446744073709551616 := by rw [← HU.out]; exact sU_lt _
  obtain ⟨hh, hhd⟩ : ∃ hh, hh = hashB blockL r.1 := ⟨_, rfl⟩
  rw [← hhd] at HSu
  have HH := Lib.hid hhd
  have hhl : hh < 18446744073709551616 := by rw [hhd]; exact hashB_lt _ _
  clear hhd
  go_wp2_with fail
  refine HSu.out.mono ?_
  rintro e wE ⟨rfl, gE⟩
  have hGE := hGC.trans gE
  have bE := bC.grew gE
  have mE := mC.grew (by omega) gE
  have hsE := gE.size
  clear HSu gE bC hGC mC
  by_cases hS : u.1 ≠ hh
  · have hoo := HO.out
    rw [decB_sum HR.out HU.out HE.out (by rw [← HH.out]; exact hS)] at hoo
    have HOO := Lib.hid hoo
    have t1 : ((u.1 : Int) != (hh : Int)) = true := by rw [bne_iff_ne]; omega
    have t1n : (u.1 != hh) = true := by rw [bne_iff_ne]; omega
    clear hoo hS HO
    generalize u.1 = us at *
    go_wp2_with (refine st5 27 infoR (.tmp 2) (.tmp 28) w.heap.size zc zc (.slice none 0 0) (.slice none 0 0) 27 rfl rfl rfl rfl rfl bE ?_; intro wz hbz hkz)
    have hGz : Grew w wz := Keeps.then_ hGE hkz (fun i hi e => by omega)
    exact bodyPost_ret (v := .tuple #[vbl zc (.slice none 0 0), .int .i64 11]) (results_cell5_2 rfl rfl rfl infoR Tryd.underlying27 rfl hbz) rfl (by rw [HOO.out]; exact ⟨hGz, rfl⟩)
  have hS0 : u.1 = hh := by omega
  have hoo := HO.out
  rw [decB_in HR.out HU.out HE.out (by rw [← HH.out]; exact hS0)] at hoo
  have HOI := Lib.hid hoo
  have t1 : ((u.1 : Int) != (hh : Int)) = false := by rw [hS0]; simp
  have t1n : (u.1 != hh) = false := by rw [hS0]; simp
  clear hoo hS hS0 HO HH HE HU HR
  generalize u.1 = us at *
  generalize r.1 = core at *
  have hltE := bE.lt
  have gF0 : Grew wE (wE.alloc (.cells #[.slice AB nB cB, .int .i64 0] 139)) := (Grew.refl wE).alloc _
  have WF : RF (wE.alloc (.cells #[.slice AB nB cB, .int .i64 0] 139)) wE.heap.size (.slice AB nB cB) core 0 := ⟨Box.new wE 139 _, (mE.grew (by omega) gF0).more (by omega), hcoreB, by omega, HNB.out⟩
  have hGF := hGE.trans gF0
  have bF := bE.grew gF0
  have hszF : (wE.alloc (.cells #[.slice AB nB cB, .int .i64 0] 139)).heap.size = wE.heap.size + 1 := by simp
  have HI1 := Lib.hid (intF_any wE.heap.size _ core 0 _ WF)
  rw [show stF core 0 = .inr core from rfl] at HI1
  obtain ⟨p1, hp1⟩ : ∃ p1, sI (.inr core) = p1 := ⟨_, rfl⟩
  rw [hp1] at HI1
  have HP1 := Lib.hid hp1
  clear hp1 WF gF0 bE hGE mE HNB
  go_wp2_with fail
  generalize wE.alloc (.cells #[.slice AB nB cB, .int .i64 0] 139) = wF at *
  refine HI1.out.mono ?_
  rintro e wG ⟨rfl, kG, v1, t1', e1, W1, s1⟩
  have hGG : Grew w wG := Keeps.then_ hGF kG (fun i hi e => by omega)
  have bG := bF.keep kG (by omega)
  have hsG := kG.size
  have hltG := bG.lt
  clear HI1 kG bF hGF
  go_wp2_with (refine st5 27 infoR (.tmp 8) (.tmp 34) wG.heap.size (p1.1, 0, 0, 0) zc (.slice none 0 0) (.slice none 0 0) 27 rfl rfl rfl rfl rfl (Box.new wG 27 (cells5 zc (.slice none 0 0)).toArray) ?_; intro wH b8 kH)
  have hGH : Grew w wH := Keeps.then_ (hGG.alloc _) kH (fun i hi e => by have := hGG.size; omega)
  have bH := (bG.alloc (.cells (cells5 zc (.slice none 0 0)).toArray 27)).keep kH (by omega)
  have WH := (W1.grew ((Grew.refl wG).alloc (.cells (cells5 zc (.slice none 0 0)).toArray 27))).keepR kH (by omega)
  have hsH := kH.size
  rw [World.size_alloc] at hsH
  have hlt8 := b8.lt
  clear W1 kH bG hGG
  have HI2 := Lib.hid (intF_any wE.heap.size v1 t1' e1 wH WH)
  rw [s1] at HI2
  obtain ⟨p2, hp2⟩ : ∃ p2, sI p1.2 = p2 := ⟨_, rfl⟩
  rw [hp2] at HI2
  have HP2 := Lib.hid hp2
  clear hp2
  refine HI2.out.mono ?_
  rintro e wI ⟨rfl, kI, v2, t2', e2, WI, s2⟩
  have hGI : Grew w wI := Keeps.then_ hGH kI (fun i hi e => by omega)
  have bI := bH.keep kI (by omega)
  have b8I := b8.keep kI (by omega)
  have hsI := kI.size
  clear HI2 kI bH hGH WH s1 b8
  go_wp2_with (refine st1b (.tmp 37) (.tmp 36) wG.heap.size 1 (by decide) p2.1 (p1.1, 0, 0, 0) (.slice none 0 0) 27 rfl rfl rfl rfl b8I ?_; intro wJ b8J kJ)
  have hGJ : Grew w wJ := Keeps.then_ hGI kJ (fun i hi e => by omega)
  have bJ := bI.keep kJ (by omega)
  have WJ := WI.keepR kJ (by omega)
  have hsJ := kJ.size
  clear WI kJ bI hGI b8I
  have HI3 := Lib.hid (intF_any wE.heap.size v2 t2' e2 wJ WJ)
  rw [s2] at HI3
  obtain ⟨p3, hp3⟩ : ∃ p3, sI p2.2 = p3 := ⟨_, rfl⟩
  rw [hp3] at HI3
  have HP3 := Lib.hid hp3
  clear hp3
  refine HI3.out.mono ?_
  rintro e wK ⟨rfl, kK, v3, t3', e3, WK, s3⟩
  have hGK : Grew w wK := Keeps.then_ hGJ kK (fun i hi e => by omega)
  have bK := bJ.keep kK (by omega)
  have b8K := b8J.keep kK (by omega)
  have hsK := kK.size
  clear HI3 kK bJ hGJ WJ s2 b8J
  go_wp2_with (refine st1b (.tmp 40) (.tmp 39) wG.heap.size 2 (by decide) p3.1 (p1.1, p2.1, 0, 0) (.slice none 0 0) 27 rfl rfl rfl rfl b8K ?_; intro wL b8L kL)
  have hGL : Grew w wL := Keeps.then_ hGK kL (fun i hi e => by omega)
  have bL := bK.keep kL (by omega)
  have WL := WK.keepR kL (by omega)
  have hsL := kL.size
  clear WK kL bK hGK b8K
  have HI4 := Lib.hid (intF_any wE.heap.size v3 t3' e3 wL WL)
  rw [s3] at HI4
  obtain ⟨p4, hp4⟩ : ∃ p4, sI p3.2 = p4 := ⟨_, rfl⟩
  rw [hp4] at HI4
  have HP4 := Lib.hid hp4
  clear hp4
  refine HI4.out.mono ?_
  rintro e wM ⟨rfl, kM, v4, t4', e4, WM, s4⟩
  have hGM : Grew w wM := Keeps.then_ hGL kM (fun i hi e => by omega)
  have bM := bL.keep kM (by omega)
  have b8M := b8L.keep kM (by omega)
  have hsM := kM.size
  clear HI4 kM bL hGL WL s3 b8L
  go_wp2_with (refine st1b (.tmp 43) (.tmp 42) wG.heap.size 3 (by decide) p4.1 (p1.1, p2.1, p3.1, 0) (.slice none 0 0) 27 rfl rfl rfl rfl b8M ?_; intro wN b8N kN)
  have hGN : Grew w wN := Keeps.then_ hGM kN (fun i hi e => by omega)
  have bN := bM.keep kN (by omega)
  have WN := WM.keepR kN (by omega)
  have hsN := kN.size
  clear WM kN bM hGM b8M
  change Box wN wG.heap.size 27 (cells5 (p1.1, p2.1, p3.1, p4.1) (.slice none 0 0)).toArray at b8N
  have HRw := Lib.hid (rawF_any wE.heap.size v4 t4' e4 wN WN)
  have hqB0 : Bytes (sRaw (stF t4' e4)).1 := sRaw_bytesF _ _ WN.bytes
  have hqL0 : (sRaw (stF t4' e4)).1.length ≤ 1000000 := Nat.le_trans (sRaw_lenF _ _) WN.small
  rw [s4] at HRw hqB0 hqL0
  obtain ⟨q, hq⟩ : ∃ q, sRaw p4.2 = q := ⟨_, rfl⟩
  rw [hq] at HRw hqB0 hqL0
  have HQ := Lib.hid hq
  clear hq WN s4
  refine HRw.out.mono ?_
  rintro e wO ⟨uO, rfl, mO, nO', kO, vO, tO, eO, WO, sO⟩
  obtain ⟨AO, nO, cO, rfl, -⟩ := mO.form
  have hGO : Grew w wO := Keeps.then_ hGN kO (fun i hi e => by omega)
  have bO := bN.keep kO (by omega)
  have b8O := b8N.keep kO (by omega)
  have hsO := kO.size
  have HEn := Lib.hid (endF_any wE.heap.size vO tO eO wO WO)
  rw [sO] at HEn
  clear HRw WO kO sO bN hGN b8N nO'
  go_wp2_with fail
  refine HEn.out.mono ?_
  rintro e w' ⟨rfl, hw'⟩
  rw [hw']; clear hw' w' HEn
  by_cases hE : sEnd q.2 ≠ 0
  · have hoo := HOI.out
    rw [inB_end HP1.out HP2.out HP3.out HP4.out HQ.out hE] at hoo
    have HOO := Lib.hid hoo
    have t0 : (sEnd q.2 != 0) = true := by simpa using hE
    clear hoo hE HOI
    generalize sEnd q.2 = es at *
    go_wp2_with (refine st5 27 infoR (.tmp 2) (.tmp 49) w.heap.size zc zc (.slice none 0 0) (.slice none 0 0) 27 rfl rfl rfl rfl rfl bO ?_; intro wz hbz hkz)
    have hGz : Grew w wz := Keeps.then_ hGO hkz (fun i hi e => by omega)
    exact bodyPost_ret (v := .tuple #[vbl zc (.slice none 0 0), .int .i64 2]) (results_cell5_2 rfl rfl rfl infoR Tryd.underlying27 rfl hbz) rfl (by rw [HOO.out]; exact ⟨hGz, rfl⟩)
  have hE0 : sEnd q.2 = 0 := by simpa using hE
  have HE := Lib.hid hE0
  clear hE hE0
  rw [HE.out]
  have hqL1 : q.1.length ≤ 100000 := by
    have := qlen HP1.out HP2.out HP3.out HP4.out HQ.out
    omega
  have HDe := Lib.hid (rdecode_any _ q.1 wO (mO.more (by omega)) hqB0 hqL1)
  cases hdec : refDecode q.1 with
  | none =>
    rw [hdec] at HDe
    have hoo := HOI.out
    rw [inB_none HP1.out HP2.out HP3.out HP4.out HQ.out HE.out hdec] at hoo
    have HOO := Lib.hid hoo
    clear hoo HOI hdec
    go_wp2_with fail
    refine HDe.out.mono ?_
    rintro e wQ ⟨gQ, rfl⟩
    have hGQ := hGO.trans gQ
    have bQ := bO.grew gQ
    go_wp2_with (refine st5 27 infoR (.tmp 2) (.tmp 57) w.heap.size zc zc (.slice none 0 0) (.slice none 0 0) 27 rfl rfl rfl rfl rfl bQ ?_; intro wz hbz hkz)
    have hGz : Grew w wz := Keeps.then_ hGQ hkz (fun i hi e => by omega)
    exact bodyPost_ret (v := .tuple #[vbl zc (.slice none 0 0), .int .i64 2]) (results_cell5_2 rfl rfl rfl infoR Tryd.underlying27 rfl hbz) rfl (by rw [HOO.out]; exact ⟨hGz, rfl⟩)
  | some l =>
    rw [hdec] at HDe
    have HDC := Lib.hid hdec
    clear hdec
    go_wp2_with fail
    refine HDe.out.mono ?_
    rintro e wQ ⟨gQ, vQ, rfl, mQ⟩
    obtain ⟨AQ, nQ, cQ, rfl, -⟩ := mQ.slice
    have hGQ := hGO.trans gQ
    have bQ := bO.grew gQ
    have b8Q := b8O.grew gQ
    have hsQ := gQ.size
    have hVa := rvalid_any (p1.1, p2.1, p3.1, p4.1) none 0 0 wQ
    unfold vbl at hVa
    have HVa := Lib.hid hVa
    clear HDe gQ bO b8O hGO mO hVa
    go_wp2_with (refine ld5v' 27 infoR Tryd.underlying27 rfl (.tmp 8) wG.heap.size (p1.1, p2.1, p3.1, p4.1) (.slice none 0 0) 27 rfl rfl rfl b8Q ?_)
    refine HVa.out.mono ?_
    rintro e wS ⟨rfl, gS⟩
    have hGS := hGQ.trans gS
    have bS := bQ.grew gS
    have b8S := b8Q.grew gS
    have mS := mQ.grew gS
    have hsS := gS.size
    clear HVa gS b8Q bQ hGQ mQ
    by_cases hok : okB (p1.1, p2.1, p3.1, p4.1)
    · have hoo := HOI.out
      rw [inB_ok HP1.out HP2.out HP3.out HP4.out HQ.out HE.out HDC.out hok] at hoo
      have HOO := Lib.hid hoo
      rw [decide_eq_true hok]
      clear hoo HOI hok
      have hs8 : ∀ i, (Value.slice AQ nQ cQ).ownBlock = some i → i ≠ wG.heap.size := fun i e e2 => mS.ne_box e b8S (by decide) e2
      go_wp2_with (first | (refine stv5 (.tmp 64) (.tmp 63) wG.heap.size AQ nQ cQ (p1.1, p2.1, p3.1, p4.1) (.slice none 0 0) 27 rfl rfl rfl rfl b8S ?_; intro wT b8T kT; have bT := bS.keep kT (by omega)) | (refine ld5v' 27 infoR Tryd.underlying27 rfl (.tmp 8) wG.heap.size (p1.1, p2.1, p3.1, p4.1) (.slice AQ nQ cQ) 27 rfl rfl rfl b8T ?_) | (refine st5 27 infoR (.tmp 2) (.tmp 65) w.heap.size (p1.1, p2.1, p3.1, p4.1) zc (.slice AQ nQ cQ) (.slice none 0 0) 27 rfl rfl rfl rfl rfl bT ?_; intro wz hbz hkz))
      have hGT : Grew w wT := Keeps.then_ hGS kT (fun i hi e => by omega)
      have hGz : Grew w wz := Keeps.then_ hGT hkz (fun i hi e => by omega)
      have mT := mS.keep kT hs8
      have mz := mT.keep hkz (fun k e e2 => mT.ne_box e bT (by decide) e2)
      exact bodyPost_ret (v := .tuple #[vbl (p1.1, p2.1, p3.1, p4.1) (.slice AQ nQ cQ), .int .i64 0]) (results_cell5_2 rfl rfl rfl infoR Tryd.underlying27 rfl hbz) rfl (by rw [HOO.out]; exact ⟨hGz, _, rfl, mz.base_le (by omega)⟩)
    · have hoo := HOI.out
      rw [inB_bad HP1.out HP2.out HP3.out HP4.out HQ.out HE.out HDC.out hok] at hoo
      have HOO := Lib.hid hoo
      rw [decide_eq_false hok]
      clear hoo HOI hok
      go_wp2_with (refine st5 27 infoR (.tmp 2) (.tmp 62) w.heap.size zc zc (.slice none 0 0) (.slice none 0 0) 27 rfl rfl rfl rfl rfl bS ?_; intro wz hbz hkz)
      have hGz : Grew w wz := Keeps.then_ hGS hkz (fun i hi e => by omega)
      exact bodyPost_ret (v := .tuple #[vbl zc (.slice none 0 0), .int .i64 1]) (results_cell5_2 rfl rfl rfl infoR Tryd.underlying27 rfl hbz) rfl (by rw [HOO.out]; exact ⟨hGz, rfl⟩)
end Go.Proofs.YtjiiiimhegkklaaDoor
