/- The law BlockDetects, walked: it returns true and leaves what was there. -/
import Derived.Test.YtjiiiimhegkklaaDoorBlockDecodesP34
import Derived.Test.YtjiiiimhegkklaaDoorBlockDecodesP35
import Derived.Test.YtjiiiimhegkklaaDoorBlockDecodesP36
import Derived.Test.YtjiiiimhegkklaaDoorBlockDecodesP38
namespace Go.Proofs.YtjiiiimhegkklaaDoor
open Go.RowKit Pl

theorem WR.keepS {w w' : World} {base g : Nat} {v : Value} {bs : List Nat} {a : Nat} {er : Int} {S : Nat → Prop} (h : WR w base g v bs a er) (hk : Keeps S w w') (hg : ¬ S g) (hv : ∀ k, v.ownBlock = some k → ¬ S k) : WR w' base g v bs a er :=
  ⟨h.box.keep hk hg, h.row.keep hk hv, h.bytes, h.small, h.here⟩
theorem core_len9 {x : Clm} (hx : okB x) {cs : List Clm} (hl : cs.length ≤ 9) : (coreB x (pack (cbits cs))).length ≤ 1000 := by
  obtain ⟨x1, x2, x3, x4⟩ := okB_i64 hx
  have h1 := cbits_length cs
  have h2 : (pack (cbits cs)).length ≤ 400 := by rw [pack_length]; omega
  have l1 := vint_len10 (zig_lt x1)
  have l2 := vint_len10 (zig_lt x2)
  have l3 := vint_len10 (zig_lt x3)
  have l4 := vint_len10 (zig_lt x4)
  have l5 := vint_len10 (n := (pack (cbits cs)).length) (by omega)
  unfold coreB rawB
  simp only [List.length_append]
  omega
theorem vint_pos (n : Nat) : 1 ≤ (vint n).length := by
  by_cases hh : n < 128
  · rw [vint_lt hh]; simp
  · rw [vint_ge hh]; simp
theorem whole_len0 (core : List Nat) (hh : Nat) (hl : core.length ≤ 1000) (h : hh < 18446744073709551616) : (rawB core ++ vint hh).length = (vint core.length).length + core.length + (vint hh).length ∧ (vint core.length).length ≤ 10 ∧ (vint hh).length ≤ 10 ∧ 1 ≤ (vint hh).length := by
  refine ⟨?_, vint_len10 (by omega), vint_len10 h, vint_pos hh⟩
  rw [List.length_append, rawB, List.length_append]
theorem whole_len {core : List Nat} (h : core.length ≤ 1000) : (wholeB core).length = (vint core.length).length + core.length + (vint (hashB blockL core)).length ∧ (vint core.length).length ≤ 10 ∧ (vint (hashB blockL core)).length ≤ 10 ∧ 1 ≤ (vint (hashB blockL core)).length := whole_len0 core _ h (hashB_lt blockL core)
theorem made_enc {X : Clm} {cs : List Clm} (hx : okB X) (hc : ∀ c ∈ cs, okC c) (hl : cs.length ≤ 9) : bEncE X cs = 0 ∧ bEncB X cs = wholeB (coreB X (pack (cbits cs))) := by
  have h1 : encE cs = 0 := by unfold encE; rw [if_neg (by omega), if_pos hc]
  have h2 : bEncE X cs = 0 := by unfold bEncE; rw [if_pos hx, h1]
  exact ⟨h2, by unfold bEncB; rw [if_pos h2]⟩
theorem xor_ne {x d : Nat} (hd : 0 < d) : x ^^^ d ≠ x := fun h => by
  have h2 := congrArg (x ^^^ ·) h
  simp only [← Nat.xor_assoc, Nat.xor_self, Nat.zero_xor] at h2
  omega
/- a byte stored into a cell -/
theorem st_u8 {ops : Array Oper} {rest : List Oper} {o : Oper} {a : Act} {w : World} {Q : Exit → Act → World → Prop} (x y : Operand) (g k : Nat) (n : Int) (u : Value) (hgd : o.guard = none) (ho : o.op = .store 5 x y)
    (hx : a.eval x = .pointer (some ⟨g, k, none⟩)) (hy : a.eval y = .int .u8 n) (hc : w.cell? ⟨g, k, none⟩ = some u) (hf : w.frozen? ⟨g, k, none⟩ = false)
    (h : ∀ w', w' = w.setCell ⟨g, k, none⟩ (.int .u8 n) → wpList Tryd.prog ops Q rest (a.put o.dst undef) w') : wpList Tryd.prog ops Q (o :: rest) a w := by
  refine wpList_plain hgd fun K hK => ?_
  unfold Oper.wp execOp
  simp only [ho, hx, hy]
  go_simp
  exact hK _ _ (h _ rfl)
set_option maxHeartbeats 12800000 in
set_option maxRecDepth 100000 in
theorem blockDetects_walk (n : Int) (v0 : Value) (l : List Int) (at_ : Int) (by_ : Nat) (w : World) (hn : I64 n) (h0 : Rd w w.heap.size v0 (l.map vi)) (hi : ∀ x ∈ l, I64 x) (hl : l.length ≤ 1000000000000000) (ha : I64 at_) (hby : by_ < 256) (ht : Tab w w.heap.size) (hp : PTab w w.heap.size) :
    Calls Tryd.prog 14 #[.int .i64 n, v0, .int .i64 at_, .int .u8 (by_ : Nat)] w fun e w' => e = .returned (.bool true) ∧ Grew w w' := by
  have HM := Lib.hid (made_any n v0 l _ hn h0 hi hl)
  have HOK := Lib.hid (madeX_ok n)
  have HT := Lib.hid ht
  have HP := Lib.hid hp
  obtain ⟨A0, n0, c0, rfl, -, -⟩ := h0.form
  clear h0 hi ht hp
  generalize madeX n = X at *
  go_enter Tryd.func14, Tryd.ntmps14
  go_wp2_with fail
  refine HM.out.mono ?_
  rintro e w2 ⟨v2, cs, rfl, q1, q2, q3, hG2⟩
  obtain ⟨A2, m2, c2, rfl, -⟩ := q1.slice
  have hOf := of_any X A2 m2 c2 w2
  unfold vbl at hOf ⊢
  have HOf := Lib.hid hOf
  clear hOf HM
  go_wp2_with fail
  refine HOf.out.mono ?_
  rintro e w3 ⟨rfl, k3⟩
  have hG3 := hG2.trans k3
  have m3 := q1.grew k3
  have hEn := bencode_any X _ cs w3 m3.rd (by omega) (HT.out.on hG3) (HP.out.on hG3)
  unfold vbl at hEn
  obtain ⟨hE0, hEB⟩ := made_enc HOK.out q2 q3
  have HEn := Lib.hid hEn
  have HE0 := Lib.hid hE0
  have HEB := Lib.hid hEB
  have hcl := core_len9 HOK.out q3
  have hcb : Bytes (coreB X (pack (cbits cs))) := coreB_bytes X (pack_bytes _)
  have hs3 := hG3.size
  clear hEn hE0 hEB HOf k3 hG2 q1 q2
  go_wp2_with fail
  refine HEn.out.mono ?_
  rintro e w4 ⟨vb4, rfl, b4, k4⟩
  rw [HE0.out]
  rw [HEB.out] at b4
  generalize coreB X (pack (cbits cs)) = core at *
  have hG4 := hG3.trans k4
  obtain ⟨wl, wl1, wl2, wl3⟩ := whole_len hcl
  have hwb : Bytes (wholeB core) := by unfold wholeB; exact bytes_app (rawB_bytes hcb) (vint_bytes _)
  have hr := sRaw_rawB (c := core) (by omega) (vint (hashB blockL core))
  change sRaw (.inr (wholeB core)) = _ at hr
  have hu := sU_vint (hashB_lt blockL core) []
  rw [List.append_nil] at hu
  have hdet := fun k y (h1 : (vint core.length).length ≤ k) (h2 : k < (wholeB core).length) (h3 : y < 256) (h4 : (wholeB core)[k]? ≠ some y) => detect hcb (by omega) h1 h2 h3 h4
  have hhl := hashB_lt blockL core
  have HHb := Lib.hid (fun u w' (r : Rd w' w'.heap.size u (core.map vb)) => hbytes_any ⟨#[98, 108, 111, 99, 107]⟩ blockL u core w' rfl blockL_bytes (by decide) r hcb (by omega))
  generalize hashB blockL core = hh at *
  generalize wholeB core = wh at *
  have hwl : wh.length ≤ 1020 := by omega
  have HR := Lib.hid hr
  have HU := Lib.hid hu
  have HDet := Lib.hid hdet
  have HCB := Lib.hid hcb
  have HWB := Lib.hid hwb
  obtain ⟨A4, n4, c4, rfl, hn4⟩ := b4.slice
  rw [List.length_map] at hn4
  have HN4 := Lib.hid hn4
  have HRd := Lib.hid (readR_any _ wh w4 b4.rd hwb (by omega))
  have hO4 : ∀ i, (Value.slice A4 n4 c4).ownBlock = some i → i < w4.heap.size := fun i e => (b4.lt i e).2
  have HO4 := Lib.hid hO4
  clear hr hu hdet hcb hwb hO4 HEn HE0 HEB k4 hG3 m3 hn4
  go_wp2_with fail
  refine HRd.out.mono ?_
  rintro e wA ⟨gA, uA, rfl, WA, hgA, kA⟩
  have hGA := hG4.trans kA
  have bA := b4.grew kA
  have hgAl := WA.box.lt
  have hs4 := hG4.size
  have huA : ∀ k, uA.ownBlock = some k → k < wA.heap.size := fun k e => (WA.row.lt k e).2
  have HUA := Lib.hid huA
  have HRw := Lib.hid (rawR_any gA _ uA wh 0 0 wA WA)
  rw [show stP wh 0 0 = .inr wh from rfl, HR.out] at HRw
  clear HRd kA WA hG4 b4 huA
  go_wp2_with fail
  refine HRw.out.mono ?_
  rintro e wB ⟨uB, rfl, mB, kB, aB, eB, WB, sB⟩
  simp only at mB sB
  obtain ⟨AB, nB, cB, rfl, hnB⟩ := mB.slice
  rw [List.length_map] at hnB
  have HNB := Lib.hid hnB
  have hnBl : nB ≤ 1000 := by omega
  have hGB : Grew w wB := Keeps.then_ hGA kB (fun i hi e => by omega)
  have bB := bA.keep kB (fun k e e2 => by have := HO4.out k e; omega)
  have hsB := kB.size
  have HUi := Lib.hid (uintR_any gA _ uA wh aB eB wB WB)
  rw [sB, HU.out] at HUi
  clear HRw WB kB sB bA hGA hnB
  go_wp2_with fail
  refine HUi.out.mono ?_
  rintro e wC ⟨rfl, kC, aC, eC, WC, sC⟩
  simp only at sC
  have hGC : Grew w wC := Keeps.then_ hGB kC (fun i hi e => by omega)
  have bC := bB.keep kC (fun k e e2 => by have := HO4.out k e; omega)
  have mC := mB.keep kC (fun k e e2 => by have := (mB.lt k e).1; omega)
  have hsC := kC.size
  have hOm : ∀ i, (Value.slice AB nB cB).ownBlock = some i → i < wC.heap.size := fun i e => (mC.lt i e).2
  have HOM := Lib.hid hOm
  have hW0 : WW (wC.alloc (.cells #[.slice none 0 0] 79)) wC.heap.size wC.heap.size (.slice none 0 0) [] := ⟨Box.new wC 79 #[.slice none 0 0], Mine.nil _ _ _⟩
  have hsz : (wC.alloc (.cells #[.slice none 0 0] 79)).heap.size = wC.heap.size + 1 := by simp
  have HWu := Lib.hid (wuint_any wC.heap.size wC.heap.size (.slice none 0 0) [] nB _ hW0 (by omega) (by simp) (by omega))
  rw [List.nil_append] at HWu
  have gD : Grew wC (wC.alloc (.cells #[.slice none 0 0] 79)) := (Grew.refl wC).alloc _
  have WD := WC.grew gD
  have bD := bC.grew gD
  have mD := mC.grew gD
  have hGD := hGC.trans gD
  have hgAC := WC.box.lt
  clear HUi WC kC bB hGB mB bC mC gD hOm hW0 hGC
  go_wp2_with fail
  generalize wC.alloc (.cells #[.slice none 0 0] 79) = wD at *
  refine HWu.out.mono ?_
  rintro e wE ⟨rfl, uE, aE, kE, -⟩
  have hnone : ∀ i, ¬ ((Value.slice none 0 0).ownBlock = some i) := fun i e => by cases e
  have hKE : Keeps (fun i => i = wC.heap.size) wD wE := Keeps.mono kE (fun i hi e => by
    rcases e with e | e
    · exact e
    · exact absurd e (hnone i))
  have WE := WD.keepS hKE (by omega) (fun k e e2 => by have := HUA.out k e; omega)
  have bE := bD.keep hKE (fun k e e2 => by have := HO4.out k e; omega)
  have mE := mD.keep hKE (fun k e e2 => by have := HOM.out k e; omega)
  have hGE : Grew w wE := Keeps.then_ hGD hKE (fun i hi e => by omega)
  have hsE := hKE.size
  have hvl := vint_len10 (n := nB) (by omega)
  have HDn := Lib.hid (wwdone_any wC.heap.size wC.heap.size uE _ wE aE (by omega))
  clear HWu kE hKE WD bD mD hGD
  go_wp2_with fail
  refine HDn.out.mono ?_
  rintro e wF ⟨vF, rfl, dF, kF⟩
  obtain ⟨AF, nF, cF, rfl, hnF⟩ := dF.slice
  rw [List.length_map, HNB.out] at hnF
  have WF := WE.grew kF
  have bF := bE.grew kF
  have mF := mE.grew kF
  have hGF := hGE.trans kF
  have hsF := kF.size
  have HEn := Lib.hid (endR_any gA _ uA wh aC eC wF WF)
  rw [sC] at HEn
  have HNF := Lib.hid hnF
  rw [← hnF] at wl wl1
  clear HDn aE WE bE mE hGE kF dF hnF sC
  go_wp2_with fail
  refine HEn.out.mono ?_
  rintro e wG ⟨rfl, nG, hGw⟩
  have gG : Grew wF wG := by rw [hGw]; exact (Grew.refl wF).drewN nG
  have hGG := hGF.trans gG
  have bG := bF.grew gG
  have mG := mF.grew gG
  have hsG := gG.size
  rw [show sEnd (.inr []) = 0 from rfl]
  have HBy := Lib.hid (HHb.out _ wG mG.rd)
  clear HEn hGw gG WF bF mF hGF HHb
  go_wp2_with fail
  refine HBy.out.mono ?_
  rintro e wH ⟨rfl, gH⟩
  have hGH := hGG.trans gH
  have bH := bG.grew gH
  have hsH := gH.size
  have hn4 := HN4.out
  have hlt4 : (nF : Int) < (n4 : Int) := by omega
  have tq : ((hh : Int) != (hh : Int)) = false := by simp
  have tqn : (hh != hh) = false := by simp
  have tl : decide ((n4 : Int) ≤ (nF : Int)) = false := by simp; omega
  have tln : decide (n4 ≤ nF) = false := by simp; omega
  have hsub : (n4 : Int) - (nF : Int) = ((n4 - nF : Nat) : Int) := by omega
  have hn4l : n4 ≤ 1020 := by omega
  have HAr := Lib.hid (arnd' at_ ((n4 : Int) - (nF : Int)) wH ha (by omega) (by omega))
  have hk := arnd_lt at_ ((n4 : Int) - (nF : Int)).toNat (by omega)
  generalize arnd at_ ((n4 : Int) - (nF : Int)).toNat = k at *
  clear HBy gH bG mG hGG hn4 hsub
  go_wp2_with fail
  refine HAr.out.mono ?_
  rintro e w' ⟨rfl, hw'⟩
  rw [hw']; clear hw' w' HAr
  obtain ⟨r4, rfl⟩ := bH.some_ (by rw [List.length_map, ← HN4.out]; omega)
  have hkl : nF + k < wh.length := by rw [← HN4.out]; omega
  have hcell := bH.cellAt (j := nF + k) (by rw [List.length_map]; exact hkl)
  rw [List.getElem_map] at hcell
  have hxb : wh[nF + k] < 256 := HWB.out _ (List.getElem_mem hkl)
  have hx? : wh[nF + k]? = some wh[nF + k] := List.getElem?_eq_getElem hkl
  unfold vb at hcell
  have hfr : wH.frozen? ⟨r4, nF + k, none⟩ = false := by
    rcases bH.form with ⟨h, _⟩ | ⟨g, cap, cur, hv, _, hbox, _⟩
    · cases h
    · injection hv with hv
      injection hv with hv
      injection hv with hv
      subst hv
      exact hbox.frozen _
  generalize wh[nF + k] = x at *
  have HX := Lib.hid hx?
  have i1 : (0 : Int) ≤ (nF : Int) + (k : Int) := by omega
  have i2 : (nF : Int) + (k : Int) < (n4 : Int) := by omega
  have i3 : ((nF : Int) + (k : Int)).toNat = nF + k := by omega
  have HBH := Lib.hid bH
  clear hx? bH
  go_upto_region 14 with (refine st_u8 (.tmp 78) (.tmp 77) r4 (nF + k) _ (.int .u8 (x : Nat)) rfl rfl rfl rfl hcell hfr ?_; intro wI hwI)
  dsimp only [Act.put]
  have hyy : bits BinOp.xor IntKind.u8 (x : Int) (1 + (by_ : Int) % 255) = ((x ^^^ (1 + by_ % 255) : Nat) : Int) := by
    have := u8_xor_nat x (1 + by_ % 255) hxb (by omega)
    rw [← this]
    congr 1
  rw [hyy] at hwI
  have hyl : x ^^^ (1 + by_ % 255) < 256 := Nat.xor_lt_two_pow (n := 8) hxb (by omega)
  have hyn : x ^^^ (1 + by_ % 255) ≠ x := xor_ne (by omega)
  clear hyy
  generalize x ^^^ (1 + by_ % 255) = y at *
  generalize bits BinOp.xor IntKind.u8 (x : Int) (1 + (by_ : Int) % 255) = yy at *
  have kI : Keeps (fun i => i = r4) wH wI := by rw [hwI]; exact (Keeps.refl (fun i => i = r4) wH).setCell (p := ⟨r4, nF + k, none⟩) (.inl rfl) _
  have bI : Mine wI w3.heap.size 5 (.slice (some ⟨r4, 0, none⟩) n4 c4) ((wh.set (nF + k) y).map vb) := by
    rw [hwI, List.map_set]
    exact HBH.out.store rfl (by rw [List.length_map]; exact hkl) _
  have hr4 := (HBH.out.lt r4 rfl).1
  have hGI : Grew w wI := Keeps.then_ hGH kI (fun i hi e => by omega)
  have hd := HDet.out (nF + k) y (by rw [← HNF.out]; omega) hkl hyl (by rw [HX.out]; exact fun e => hyn (Option.some.inj e).symm)
  have HDc := Lib.hid (bdecode_any _ (wh.set (nF + k) y) wI bI.rd (bytes_set HWB.out _ hyl) (by rw [List.length_set]; omega) (HT.out.on hGI) (HP.out.on hGI))
  have HPl := Lib.hid (fun w' => plain_any zc none 0 0 w')
  have HSm := Lib.hid (fun w' => rbsame_any zc zc (.slice none 0 0) (.slice none 0 0) [] [] w' (RdC.nil _ _) (RdC.nil _ _) (by simp) (by simp))
  rw [show decide (zc = zc ∧ ([] : List Clm) = []) = true by simp] at HSm
  unfold vbl at HPl HSm
  clear hwI kI HBH hcell hfr i1 i2 i3 HX hyl hyn bI
  rcases hd with hd | hd
  · rw [hd] at HDc
    clear hd
    go_wp2_with fail
    refine HDc.out.mono ?_
    rintro e wJ ⟨gJ, rfl⟩
    have hGJ := hGI.trans gJ
    unfold vbl
    go_wp2_with (first | (refine st5 35 infoB (.tmp 17) (.tmp 82) wJ.heap.size zc zc (.slice none 0 0) (.slice none 0 0) 35 rfl rfl rfl rfl rfl (Box.new wJ 35 (cells5 zc (.slice none 0 0)).toArray) ?_; intro wK hbK hkK; obtain ⟨z0, z1, z2, z3, z4⟩ := hbK.five))
    have hGK : Grew w wK := Keeps.then_ (hGJ.alloc _) hkK (fun i hi e => by have := hGJ.size; omega)
    refine (HPl.out wK).mono ?_
    rintro e wL ⟨rfl, gL⟩
    have hGL := hGK.trans gL
    clear z0 z1 z2 z3 z4
    go_wp2_with fail
    refine (HSm.out wL).mono ?_
    rintro e wM ⟨rfl, gM⟩
    have hGM := hGL.trans gM
    have HLv := Lib.hid (lives18_any wM (HT.out.on hGM) (HP.out.on hGM))
    go_wp2_with fail
    refine HLv.out.mono ?_
    rintro e wN ⟨rfl, gN⟩
    go_wp2_with fail
    go_ret
    exact ⟨rfl, hGM.trans gN⟩
  · rw [hd] at HDc
    clear hd
    go_wp2_with fail
    refine HDc.out.mono ?_
    rintro e wJ ⟨gJ, rfl⟩
    have hGJ := hGI.trans gJ
    unfold vbl
    go_wp2_with (first | (refine st5 35 infoB (.tmp 17) (.tmp 82) wJ.heap.size zc zc (.slice none 0 0) (.slice none 0 0) 35 rfl rfl rfl rfl rfl (Box.new wJ 35 (cells5 zc (.slice none 0 0)).toArray) ?_; intro wK hbK hkK; obtain ⟨z0, z1, z2, z3, z4⟩ := hbK.five))
    have hGK : Grew w wK := Keeps.then_ (hGJ.alloc _) hkK (fun i hi e => by have := hGJ.size; omega)
    refine (HPl.out wK).mono ?_
    rintro e wL ⟨rfl, gL⟩
    have hGL := hGK.trans gL
    clear z0 z1 z2 z3 z4
    go_wp2_with fail
    refine (HSm.out wL).mono ?_
    rintro e wM ⟨rfl, gM⟩
    have hGM := hGL.trans gM
    have HLv := Lib.hid (lives18_any wM (HT.out.on hGM) (HP.out.on hGM))
    go_wp2_with fail
    refine HLv.out.mono ?_
    rintro e wN ⟨rfl, gN⟩
    go_wp2_with fail
    go_ret
    exact ⟨rfl, hGM.trans gN⟩
end Go.Proofs.YtjiiiimhegkklaaDoor
