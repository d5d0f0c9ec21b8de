/- The law BlockIds, walked: it returns true and leaves what was there. -/
import Derived.Test.YtgajmhpnilkmiaaDoorBlockIdsP28
import Derived.Test.YtgajmhpnilkmiaaDoorBlockIdsP30
import Derived.Test.YtgajmhpnilkmiaaDoorBlockIdsP29
import Derived.Test.YtgajmhpnilkmiaaDoorBlockIdsP24
namespace Go.Proofs.YtgajmhpnilkmiaaDoor
open Go.RowKit Pl

theorem slBs : SlT Tryd.prog 52 33 24 (.slice none 0 0) := ⟨Tryd.underlying52, by kernel_rfl, rfl, by decide⟩
/- values that are rows of bytes, one for each list -/
def RowsB (w : World) (base : Nat) (us : List Value) (bss : List (List Nat)) : Prop :=
  us.length = bss.length ∧ ∀ (j : Nat) (u : Value) (bs : List Nat), us[j]? = some u → bss[j]? = some bs → Mine w base 5 u (bs.map vb)
section
variable {w w' : World} {base : Nat} {us us' : List Value} {bss bss' : List (List Nat)}
theorem RowsB.nil (w : World) (base : Nat) : RowsB w base [] [] := ⟨rfl, fun j u bs h => by simp at h⟩
theorem RowsB.grew (h : RowsB w base us bss) (k : Grew w w') : RowsB w' base us bss := ⟨h.1, fun j u bs a b => (h.2 j u bs a b).grew k⟩
theorem RowsB.alloc (h : RowsB w base us bss) (o : Obj) : RowsB (w.alloc o) base us bss := h.grew ((Grew.refl w).alloc o)
theorem RowsB.aside {b' : Nat} {e' : TypeId} {v' : Value} {ys : List Value} (h : RowsB w base us bss) (h' : Mine w b' e' v' ys) (hne : e' ≠ 5) (hk : Keeps (fun i => v'.ownBlock = some i) w w') : RowsB w' base us bss :=
  ⟨h.1, fun j u bs a b => (h.2 j u bs a b).aside h' hne hk⟩
theorem RowsB.app (h : RowsB w base us bss) (h' : RowsB w base us' bss') : RowsB w base (us ++ us') (bss ++ bss') := by
  refine ⟨by rw [List.length_append, List.length_append, h.1, h'.1], fun j u bs a b => ?_⟩
  rcases Nat.lt_or_ge j us.length with hj | hj
  · rw [List.getElem?_append_left hj] at a
    rw [List.getElem?_append_left (by rw [← h.1]; exact hj)] at b
    exact h.2 j u bs a b
  · rw [List.getElem?_append_right hj] at a
    rw [List.getElem?_append_right (by rw [← h.1]; exact hj), ← h.1] at b
    exact h'.2 _ u bs a b
theorem RowsB.one {u : Value} {bs : List Nat} (h : Mine w base 5 u (bs.map vb)) : RowsB w base [u] [bs] := by
  refine ⟨rfl, fun j u' bs' a b => ?_⟩
  match j, a, b with
  | 0, a, b => simp at a b; subst a b; exact h
theorem RowsB.take (h : RowsB w base us bss) (k : Nat) : RowsB w base (us.take k) (bss.take k) := by
  refine ⟨by rw [List.length_take, List.length_take, h.1], fun j u bs a b => ?_⟩
  rw [List.getElem?_take] at a b
  split at a
  · rename_i hj
    rw [if_pos hj] at b
    exact h.2 j u bs a b
  · cases a
theorem RowsB.drop (h : RowsB w base us bss) (k : Nat) : RowsB w base (us.drop k) (bss.drop k) := by
  refine ⟨by rw [List.length_drop, List.length_drop, h.1], fun j u bs a b => ?_⟩
  rw [List.getElem?_drop] at a b
  exact h.2 _ u bs a b
theorem RowsB.cell (h : RowsB w base us bss) : ∀ u ∈ us, u.oneCell' = true := fun u hu => by
  obtain ⟨j, hj, rfl⟩ := List.mem_iff_getElem.1 hu
  have := h.2 j us[j] _ (List.getElem?_eq_getElem hj) (List.getElem?_eq_getElem (by rw [← h.1]; exact hj))
  obtain ⟨A, n, c, e, -⟩ := this.slice
  rw [e]; rfl
theorem RowsB.rd {v : Value} (h : RowsB w base us bss) (hr : Rd w w.heap.size v us) : RdBs w w.heap.size v bss := ⟨us, hr, h.1, fun j u bs a b => (h.2 j u bs a b).rd⟩
end
structure ISt (w wr : World) (vl vd : Value) (us : List Value) (bss : List (List Nat)) (j : Nat) : Prop where
  rowL : Mine wr w.heap.size 33 vl us
  rowI : Mine wr w.heap.size 3 vd ((sers bss).map vi)
  rows : RowsB wr w.heap.size us bss
  len : bss.length = j
  ok : ∀ bs ∈ bss, (Bytes bs ∧ bs.length ≤ 100000) ∧ oE (decB bs) = 0
  grew : Grew w wr
theorem ids_plain {bss : List (List Nat)} (h : ∀ bs ∈ bss, (Bytes bs ∧ bs.length ≤ 100000) ∧ oE (decB bs) = 0) : firstE bss = 0 ∧ idsOut bss = idsR (sers bss) := by
  have h0 := firstE_all (fun b hb => (h b hb).2)
  exact ⟨h0, idsOut_ok h0⟩
theorem ok_snocB {bss : List (List Nat)} {X : Clm} {cs : List Clm} (h : ∀ bs ∈ bss, (Bytes bs ∧ bs.length ≤ 100000) ∧ oE (decB bs) = 0) (hx : okB X) (hc : ∀ c ∈ cs, okC c) (hl : cs.length ≤ 9) : ∀ bs ∈ bss ++ [wholeB (coreB X (pack (cbits cs)))], (Bytes bs ∧ bs.length ≤ 100000) ∧ oE (decB bs) = 0 := fun bs hb => by
  rcases List.mem_append.1 hb with h1 | h1
  · exact h bs h1
  · obtain rfl := List.mem_singleton.1 h1
    refine ⟨⟨whole_bytes (coreB_bytes X (pack_bytes _)), ?_⟩, by rw [dec_whole hx hc hl]; rfl⟩
    have := (whole_len2 (core_len9 hx hl)).1
    omega
theorem sers_app (bss : List (List Nat)) {X : Clm} {cs : List Clm} (hx : okB X) (hc : ∀ c ∈ cs, okC c) (hl : cs.length ≤ 9) : sers (bss ++ [wholeB (coreB X (pack (cbits cs)))]) = sers bss ++ [X.1] := by
  unfold sers; rw [List.map_append, List.map_singleton, dec_whole hx hc hl]; rfl
theorem ok_mid {bss : List (List Nat)} {fb : List Nat} (h : ∀ bs ∈ bss, (Bytes bs ∧ bs.length ≤ 100000) ∧ oE (decB bs) = 0) (hf : Bytes fb) (hfl : fb.length ≤ 30) (k : Nat) :
    (∀ bs ∈ bss.take k ++ [fb] ++ bss.drop k, Bytes bs ∧ bs.length ≤ 100000) ∧ firstE (bss.take k ++ [fb] ++ bss.drop k) = oE (decB fb) := by
  refine ⟨fun bs hb => ?_, firstE_mid (fun b hb => (h b (List.mem_of_mem_take hb)).2) (fun b hb => (h b (List.mem_of_mem_drop hb)).2)⟩
  rcases List.mem_append.1 hb with h1 | h1
  · rcases List.mem_append.1 h1 with h2 | h2
    · exact (h bs (List.mem_of_mem_take h2)).1
    · obtain rfl := List.mem_singleton.1 h2
      exact ⟨hf, by omega⟩
  · exact (h bs (List.mem_of_mem_drop h1)).1

set_option maxHeartbeats 12800000 in
set_option maxRecDepth 100000 in
theorem blockIds_walk (v0 : Value) (m : List Int) (v1 : Value) (l : List Int) (v2 : Value) (raw : List Nat) (at_ : Int) (w : World) (h0 : Rd w w.heap.size v0 (m.map vi)) (hm : ∀ x ∈ m, I64 x) (hml : m.length ≤ 1000000000000000)
    (h1 : Rd w w.heap.size v1 (l.map vi)) (hi : ∀ x ∈ l, I64 x) (hl : l.length ≤ 1000000000000000) (h2 : Rd w w.heap.size v2 (raw.map vb)) (hb : Bytes raw) (ha : I64 at_) (ht : Tab w w.heap.size) (hp : PTab w w.heap.size) :
    Calls Tryd.prog 4 #[v0, v1, v2, .int .i64 at_] w fun e w' => e = .returned (.bool true) ∧ Grew w w' := by
  have HMd := Lib.hid (fun x (hx : I64 x) w' (g : Grew w w') => made_any x v1 l w' hx ((h1.grew (Nat.le_refl _) g).more g.size) hi hl)
  have HFw := Lib.hid (fun w' (g : Grew w w') => few_any v2 raw 30 w' ((h2.grew (Nat.le_refl _) g).more g.size) (by omega))
  obtain ⟨A, n, c, rfl, hn, hc⟩ := h0.form
  rw [List.length_map] at hn
  have hnl : n ≤ 1000000000000000 := by omega
  obtain ⟨Ab, nb, cb, rfl, -, -⟩ := h1.form
  obtain ⟨Ac, nc, cc, rfl, -, -⟩ := h2.form
  have HN := Lib.hid hn
  have HMm := Lib.hid hm
  have H0 := Lib.hid h0
  have HBy := Lib.hid hb
  have HT := Lib.hid ht
  have HP := Lib.hid hp
  clear hn hm h0 hb ht hp hml h1 hi hl h2 hc
  go_enter Tryd.func4, Tryd.ntmps4
  go_wp2_with fail
  go_loopw [9, 10, 11] (fun a b i wr => ∃ (j : Nat) (A1 A2 : Option Addr) (m1 c1 m2 c2 : Nat) (us : List Value) (bss : List (List Nat)), j ≤ n ∧ j ≤ 8 ∧ i = .int .i64 j ∧ a = .slice A1 m1 c1 ∧ b = .slice A2 m2 c2 ∧ ISt w wr (.slice A1 m1 c1) (.slice A2 m2 c2) us bss j) (fun _ _ i _ => n - (RowKit.intOf i).toNat)
  case atStart => exact ⟨0, none, none, 0, 0, 0, 0, [], [], by omega, by omega, rfl, rfl, rfl, Mine.nil _ _ _, Mine.nil _ _ _, RowsB.nil _ _, rfl, by simp, Grew.refl w⟩
  case round =>
    obtain ⟨j, A1, A2, m1, c1, m2, c2, us, bss, hj, hj8, rfl, rfl, rfl, K⟩ := hrel
    have hmj : m1 = j := by have := K.rowL.len; rw [this, K.rows.1, K.len]
    subst hmj
    have HK := Lib.hid K
    clear K
    by_cases hlt : m1 < n
    · by_cases h8 : m1 < 8
      · have hjl : m1 < m.length := by rw [← HN.out]; exact hlt
        obtain ⟨ad, u, rfl, hadb, hu, hcell⟩ := (H0.out.grew (Nat.le_refl _) HK.out.grew).at_ (j := m1) (by rw [List.length_map]; exact hjl)
        obtain rfl : vi m[m1] = u := by
          rw [List.getElem?_map, List.getElem?_eq_getElem hjl] at hu
          injection hu
        have hxi := HMm.out m[m1] (List.getElem_mem hjl)
        generalize m[m1] = x at *
        unfold vi at hcell
        have HM := Lib.hid (HMd.out x hxi wr HK.out.grew)
        have HOK := Lib.hid (madeX_ok x)
        generalize madeX x = X at *
        clear hu hjl hxi hadb
        go_upto_region 6 with fail
        go_wp2_with fail
        refine HM.out.mono ?_
        rintro e w2 ⟨v3, cs, rfl, q1, q2, q3, k2⟩
        obtain ⟨A3, m3, c3, rfl, -⟩ := q1.slice
        have HOf := Lib.hid (fun w' => of_any X A3 m3 c3 w')
        unfold vbl at HOf ⊢
        have rowL2 := HK.out.rowL.grew k2
        have rowI2 := HK.out.rowI.grew k2
        have rows2 := HK.out.rows.grew k2
        have hG2 := HK.out.grew.trans k2
        have hs2 := hG2.size
        have hlen := HK.out.len
        have hsl : (sers bss).length = m1 := by unfold sers; rw [List.length_map]; exact hlen
        have hul : us.length = m1 := by rw [rows2.1]; exact hlen
        have HOKs := Lib.hid (ok_snocB HK.out.ok HOK.out q2 q3)
        have HSe := Lib.hid (sers_app bss HOK.out q2 q3)
        obtain ⟨hE0, hEB⟩ := made_enc HOK.out q2 q3
        have HE0 := Lib.hid hE0
        have HEB := Lib.hid hEB
        have HHL := Lib.hid hlen
        have HUL := Lib.hid hul
        have HSL := Lib.hid hsl
        clear HM hcell k2 HK hE0 hEB hlen hul hsl
        go_wp2_with (first | (refine st5 55 infoR (.tmp 12) (.tmp 37) w2.heap.size X zc (.slice A3 m3 c3) (.slice none 0 0) 55 rfl rfl rfl rfl rfl (Box.new w2 55 (cells5 zc (.slice none 0 0)).toArray) ?_; intro w3 bx3 k3) | (refine ld5v' 55 infoR Tryd.underlying55 rfl (.tmp 12) w2.heap.size X (.slice A3 m3 c3) 55 rfl rfl rfl bx3 ?_))
        have m3' := (q1.alloc (.cells (cells5 zc (.slice none 0 0)).toArray 55)).keep k3 (fun i e e2 => by have := (q1.lt i e).2; omega)
        have hG3 : Grew w w3 := Keeps.then_ (hG2.alloc _) k3 (fun i hi e => by omega)
        have k3' : Grew w2 w3 := Keeps.then_ ((Grew.refl w2).alloc (.cells (cells5 zc (.slice none 0 0)).toArray 55)) k3 (fun i hi e => by omega)
        have rowL3 := rowL2.grew k3'
        have rowI3 := rowI2.grew k3'
        have rows3 := rows2.grew k3'
        clear k3 hG2 rowL2 rowI2 rows2 q1
        refine (HOf.out w3).mono ?_
        rintro e w4 ⟨rfl, k4⟩
        have hG4 := hG3.trans k4
        have bx4 := bx3.grew k4
        have m4 := m3'.grew k4
        have hEn := bencode_any X _ cs w4 m4.rd (by omega) (HT.out.on hG4) (HP.out.on hG4)
        unfold vbl at hEn
        have HEn := Lib.hid hEn
        have hg34 := k3'.trans k4
        clear HOf hEn k3'
        go_wp2_with fail
        refine HEn.out.mono ?_
        rintro e w5 ⟨vb5, rfl, b5, k5⟩
        rw [HE0.out]
        rw [HEB.out] at b5
        have hk45 := k4.trans k5
        have hG5 := hG4.trans k5
        have bx5 := bx4.grew k5
        have rowL5 := rowL3.grew hk45
        have rowI5 := rowI3.grew hk45
        have rows5 := rows3.grew hk45
        have b5' := b5.base_le (base' := w.heap.size) hG4.size
        obtain ⟨A5, n5, c5, rfl, -⟩ := b5.slice
        have hs5 := hG5.size
        have hln1 : us.length < 1099511627776 := by rw [HUL.out]; omega
        have hln2 : ((sers bss).map vi).length < 1099511627776 := by rw [List.length_map, HSL.out]; omega
        clear HEn HE0 HEB k4 k5 hk45 bx3 bx4 rowL3 rowI3 rows3 m3' m4 hG3 hG4 b5 hg34
        generalize wholeB (coreB X (pack (cbits cs))) = wx at *
        go_upto_region 11 with (first | (at_builtin; refine app_one slBs rfl (.tmp 46) (.tmp 48) rfl rfl (rowL5.alloc _) w5.heap.size 1 (.slice A5 n5 c5) rfl (Nat.le_refl _) (by simp) (by simp) rfl hln1 (by simp; omega) ?_; intro r6 c6 w6 hM6 hk6 hr6 hb6 hl6))
        have hG6 : Grew w w6 := (hG5.alloc _).app (rowL5.alloc _) hk6
        have rowI6 := (rowI5.alloc (.cells #[.slice A5 n5 c5] 33)).aside (rowL5.alloc _) (by decide) hk6
        have rows6 := (rows5.alloc (.cells #[.slice A5 n5 c5] 33)).aside (rowL5.alloc _) (by decide) hk6
        have b6 := (b5'.alloc (.cells #[.slice A5 n5 c5] 33)).aside (rowL5.alloc _) (by decide) hk6
        have bx6 := (bx5.alloc (.cells #[.slice A5 n5 c5] 33)).keep hk6 (fun e => rowL5.ne_box e bx5 (by decide) rfl)
        obtain ⟨d0, d1, d2, d3, d4⟩ := bx6.five
        have hs6 := hG6.size
        clear rowL5 rowI5 rows5 b5' bx5 hk6 hG5
        go_wp2_with (first
          | (at_builtin; refine app_one slInt rfl (.tmp 50) (.tmp 53) rfl rfl (rowI6.alloc _) w6.heap.size 1 (.int .i64 X.1) rfl (Nat.le_refl _) (by simp) (by simp) rfl hln2 (by simp; omega) ?_; intro r7 c7 w7 hM7 hk7 hr7 hb7 hl7))
        have hG7 : Grew w w7 := (hG6.alloc _).app (rowI6.alloc _) hk7
        have rowL7 := (hM6.alloc (.cells #[.int .i64 X.1] 3)).aside (rowI6.alloc _) (by decide) hk7
        have rows7 := (rows6.alloc (.cells #[.int .i64 X.1] 3)).aside (rowI6.alloc _) (by decide) hk7
        have b7 := (b6.alloc (.cells #[.int .i64 X.1] 3)).aside (rowI6.alloc _) (by decide) hk7
        go_roundw
        case rel =>
          refine ⟨m1 + 1, _, _, _, _, _, _, us ++ [.slice A5 n5 c5], bss ++ [wx], by omega, by omega, by go_num, rfl, rfl, ?_, ?_, rows7.app (RowsB.one b7), by rw [List.length_append, HHL.out]; rfl, HOKs.out, hG7⟩
          · first | exact rowL7 | (rw [HUL.out] at rowL7; exact rowL7)
          · rw [HSe.out, List.map_append]
            rw [List.length_map] at hM7
            first | exact hM7 | (rw [HSL.out] at hM7; exact hM7)
        case measure => simp [RowKit.intOf]; omega
      · obtain rfl : m1 = 8 := by omega
        have hlen := HK.out.len
        have hul : us.length = 8 := by rw [HK.out.rows.1]; exact hlen
        obtain ⟨hF, hO⟩ := ids_plain HK.out.ok
        have HI := Lib.hid (ids_any _ bss wr (HK.out.rows.rd HK.out.rowL.rd) (fun bs hb => (HK.out.ok bs hb).1) (by rw [hlen]; omega) (HT.out.on HK.out.grew) (HP.out.on HK.out.grew))
        have HF := Lib.hid hF
        have HO := Lib.hid hO
        have HHL := Lib.hid hlen
        have HUL := Lib.hid hul
        clear hlen hul hF hO H0 HN HMm HMd
        go_wp2_with fail
        refine HI.out.mono ?_
        rintro e wa ⟨Aa, na, ca, rfl, hMa, ka⟩
        rw [HF.out]
        rw [HO.out] at hMa
        have hsl : (sers bss).length ≤ 8 := by unfold sers; rw [List.length_map, HHL.out]; omega
        have hil : (idsR (sers bss)).length ≤ 8 := Nat.le_trans (idsR_len _) hsl
        have HRI := Lib.hid (rids_any _ (sers bss) wa (HK.out.rowI.grew ka).rd (by omega))
        clear HI HF HO
        go_wp2_with fail
        refine HRI.out.mono ?_
        rintro e wb ⟨vb', rfl, hMb, kb⟩
        have HSa := Lib.hid (sameInts_any _ vb' _ _ wb (hMa.grew kb).rd hMb.rd (by omega) (by omega))
        obtain ⟨Ad, nd, cd, rfl, -⟩ := hMb.slice
        clear HRI
        go_wp2_with fail
        refine HSa.out.mono ?_
        rintro e wc ⟨rfl, nq, hwc⟩
        first | rw [show decide (idsR (sers bss) = idsR (sers bss)) = true by simp] | simp only [decide_true]
        have kc : Grew wr wc := by rw [hwc]; exact Keeps.drewN (ka.trans kb) nq
        clear hwc HSa hMa hMb ka kb
        have HFew := Lib.hid (HFw.out wc (HK.out.grew.trans kc))
        go_wp2_with fail
        refine HFew.out.mono ?_
        rintro e wd ⟨vd, rfl, hMd, kd⟩
        have kd' := kc.trans kd
        have hGd := HK.out.grew.trans kd'
        have HDc := Lib.hid (bdecode_any _ (raw.take 30) wd hMd.rd (bytes_take HBy.out 30) (by rw [List.length_take]; omega) (HT.out.on hGd) (HP.out.on hGd))
        obtain ⟨hOKm, hFEm⟩ := ok_mid HK.out.ok (bytes_take HBy.out 30) (by rw [List.length_take]; omega) (arnd at_ ((8 : Int) + 1).toNat)
        have hkl := arnd_lt at_ ((8 : Int) + 1).toNat (by omega)
        have HAr := Lib.hid (fun w' => arnd' at_ ((8 : Int) + 1) w' ha (by omega) (by omega))
        have HOKm := Lib.hid hOKm
        have HFEm := Lib.hid hFEm
        have hMd' := hMd.base_le (base' := w.heap.size) (HK.out.grew.trans kc).size
        obtain ⟨Af, nf, cf, rfl, -⟩ := hMd.slice
        clear HFew HFw hOKm hFEm hMd kc
        generalize raw.take 30 = fb at *
        generalize arnd at_ ((8 : Int) + 1).toNat = k at *
        have hk8 : k ≤ 8 := by omega
        go_wp2_with fail
        refine HDc.out.mono ?_
        rintro e we hpost
        obtain ⟨Ae, ne, ce, rfl, hMe, ke⟩ := hpost.all
        clear hpost hMe HDc
        generalize oX (decB fb) = Xf at *
        generalize hfdef : oE (decB fb) = f at *
        clear hfdef
        unfold vbl
        have ke' := kd'.trans ke
        have hMf := hMd'.grew ke
        have hez := ke'.alloc (.cells (cells5 zc (.slice none 0 0)).toArray 59)
        have hfz := (hMf.alloc (.cells (cells5 zc (.slice none 0 0)).toArray 59))
        have hflt := fun i e => (hMf.lt i e).2
        have hse := ke'.size
        clear hMd' hMf kd kd' hGd hkl
        go_wp2_with (first | (refine st5 59 infoB (.tmp 18) (.tmp 74) we.heap.size Xf zc (.slice Ae ne ce) (.slice none 0 0) 59 rfl rfl rfl rfl rfl (Box.new we 59 (cells5 zc (.slice none 0 0)).toArray) ?_; intro wg bxg kg; have kg' : Grew wr wg := (Keeps.then_ hez kg (fun i hi e => by omega)); have hMg := hfz.keep kg (fun i e e2 => by have := hflt i e; omega); clear kg bxg))
        refine (HAr.out wg).mono ?_
        rintro e wh ⟨rfl, hwh⟩
        rw [hwh]
        clear hwh wh HAr hez hfz hflt
        have rowL := HK.out.rowL.grew kg'
        have rows := HK.out.rows.grew kg'
        have HR := Lib.hid rowL.rd
        have hG0 := HK.out.grew
        have HRO := Lib.hid rows
        have hcl := rows.cell
        have hL4 : ([] ++ List.take k us).length = k := by rw [List.nil_append, List.length_take, HUL.out]; omega
        have hD4 : (List.drop k us).length = 8 - k := by rw [List.length_drop, HUL.out]
        go_upto_region 20 with (first
          | (refine sl_to slBs rfl (.tmp 82) (.tmp 83) rfl rfl rfl (by omega) HR.out ?_; intro A4 c4 r4)
          | (at_builtin; refine app_any (v := .slice none 0 0) slBs rfl (.tmp 81) (.tmp 84) rfl rfl (Mine.nil _ wg.heap.size 33) rfl r4 (fun u hu => hcl u (List.mem_of_mem_take hu)) (by rw [← List.length_append, hL4]; omega) (Nat.le_refl _) ?_; intro A5 m5 c5 w5 hm5 hM5 hk5 hO5))
        have g5 : Grew wg w5 := Keeps.then_ (Grew.refl wg) hk5 (fun i hi (e : (Value.slice none 0 0).ownBlock = some i) => by cases e)
        have hs5 := g5.size
        go_upto_region 21 with (first
          | (at_builtin; refine app_one slBs rfl (.tmp 86) (.tmp 88) rfl rfl (hM5.alloc _) w5.heap.size 1 (.slice Af nf cf) rfl (Nat.le_refl _) (by simp) (by simp) rfl (by rw [hL4]; omega) (by simp; omega) ?_; intro r6 c6 w6 hM6 hk6 hr6 hb6 hl6))
        have g6 : Grew wg w6 := (g5.alloc _).app (hM5.alloc _) hk6
        have hs6 := g6.size
        have hR6 := HR.out.grew (Nat.le_refl _) g6
        rw [hL4] at hM6
        have hmk : min k us.length = k := by rw [HUL.out]; omega
        first | rw [hmk] | rw [hL4] | skip
        go_wp2_with (first
          | (refine sl_from slBs rfl (.tmp 91) (.tmp 92) rfl rfl rfl (by omega) hR6 ?_; intro A7 m7 c7 hm7 r7)
          | (at_builtin; (refine app_any (v := .slice (some ⟨r6, 0, none⟩) (k + 1) c6) slBs rfl (.tmp 90) (.tmp 93) rfl rfl hM6 rfl r7 (fun u hu => hcl u (List.mem_of_mem_drop hu)) (by simp only [List.length_append, List.length_nil, List.length_singleton, List.length_take, List.length_drop, HUL.out]; omega) (by omega) ?_); intro A8 m8 c8 w8 hm8 hM8 hk8' hO8))
        have g8 : Grew wg w8 := g6.app hM6 hk8'
        have hG8 : Grew w w8 := hG0.trans (kg'.trans g8)
        have rows8 := ((HRO.out.grew g8).take k).app (RowsB.one (hMg.grew g8)) |>.app ((HRO.out.grew g8).drop k)
        rw [List.nil_append] at hM8
        have HI2 := Lib.hid (ids_any _ _ w8 (rows8.rd hM8.rd) HOKm.out (by rw [List.length_append, List.length_append, List.length_take, List.length_drop, HHL.out]; simp; omega) (HT.out.on hG8) (HP.out.on hG8))
        refine HI2.out.mono ?_
        rintro e w9 ⟨A9, n9, c9, rfl, hM9, k9⟩
        rw [HFEm.out]
        have hG9 := hG8.trans k9
        have HLv := Lib.hid (lives18_any w9 (HT.out.on hG9) (HP.out.on hG9))
        have tf : (f == f) = true := by simp
        by_cases hf0 : f = 0
        · subst hf0
          go_wp2_with fail
          refine HLv.out.mono ?_
          rintro e w10 ⟨rfl, k10⟩
          go_wp2_with fail
          go_ret
          exact ⟨rfl, hG9.trans k10⟩
        · have hn9 : n9 = 0 := by
            rw [idsOut_err (by rw [HFEm.out]; exact hf0)] at hM9
            exact hM9.len
          subst hn9
          have tz : (f == 0) = false := by simpa using hf0
          go_wp2_with fail
          refine HLv.out.mono ?_
          rintro e w10 ⟨rfl, k10⟩
          go_wp2_with fail
          go_ret
          exact ⟨rfl, hG9.trans k10⟩
    · have hlen := HK.out.len
      have hul : us.length = m1 := by rw [HK.out.rows.1]; exact hlen
      obtain ⟨hF, hO⟩ := ids_plain HK.out.ok
      have HI := Lib.hid (ids_any _ bss wr (HK.out.rows.rd HK.out.rowL.rd) (fun bs hb => (HK.out.ok bs hb).1) (by rw [hlen]; omega) (HT.out.on HK.out.grew) (HP.out.on HK.out.grew))
      have HF := Lib.hid hF
      have HO := Lib.hid hO
      have HHL := Lib.hid hlen
      have HUL := Lib.hid hul
      clear hlen hul hF hO H0 HN HMm HMd
      go_wp2_with fail
      refine HI.out.mono ?_
      rintro e wa ⟨Aa, na, ca, rfl, hMa, ka⟩
      rw [HF.out]
      rw [HO.out] at hMa
      have hsl : (sers bss).length ≤ 8 := by unfold sers; rw [List.length_map, HHL.out]; omega
      have hil : (idsR (sers bss)).length ≤ 8 := Nat.le_trans (idsR_len _) hsl
      have HRI := Lib.hid (rids_any _ (sers bss) wa (HK.out.rowI.grew ka).rd (by omega))
      clear HI HF HO
      go_wp2_with fail
      refine HRI.out.mono ?_
      rintro e wb ⟨vb', rfl, hMb, kb⟩
      have HSa := Lib.hid (sameInts_any _ vb' _ _ wb (hMa.grew kb).rd hMb.rd (by omega) (by omega))
      obtain ⟨Ad, nd, cd, rfl, -⟩ := hMb.slice
      clear HRI
      go_wp2_with fail
      refine HSa.out.mono ?_
      rintro e wc ⟨rfl, nq, hwc⟩
      first | rw [show decide (idsR (sers bss) = idsR (sers bss)) = true by simp] | simp only [decide_true]
      have kc : Grew wr wc := by rw [hwc]; exact Keeps.drewN (ka.trans kb) nq
      clear hwc HSa hMa hMb ka kb
      have HFew := Lib.hid (HFw.out wc (HK.out.grew.trans kc))
      go_wp2_with fail
      refine HFew.out.mono ?_
      rintro e wd ⟨vd, rfl, hMd, kd⟩
      have kd' := kc.trans kd
      have hGd := HK.out.grew.trans kd'
      have HDc := Lib.hid (bdecode_any _ (raw.take 30) wd hMd.rd (bytes_take HBy.out 30) (by rw [List.length_take]; omega) (HT.out.on hGd) (HP.out.on hGd))
      obtain ⟨hOKm, hFEm⟩ := ok_mid HK.out.ok (bytes_take HBy.out 30) (by rw [List.length_take]; omega) (arnd at_ ((m1 : Int) + 1).toNat)
      have hkl := arnd_lt at_ ((m1 : Int) + 1).toNat (by omega)
      have HAr := Lib.hid (fun w' => arnd' at_ ((m1 : Int) + 1) w' ha (by omega) (by omega))
      have HOKm := Lib.hid hOKm
      have HFEm := Lib.hid hFEm
      have hMd' := hMd.base_le (base' := w.heap.size) (HK.out.grew.trans kc).size
      obtain ⟨Af, nf, cf, rfl, -⟩ := hMd.slice
      clear HFew HFw hOKm hFEm hMd kc
      generalize raw.take 30 = fb at *
      generalize arnd at_ ((m1 : Int) + 1).toNat = k at *
      have hk8 : k ≤ m1 := by omega
      go_wp2_with fail
      refine HDc.out.mono ?_
      rintro e we hpost
      obtain ⟨Ae, ne, ce, rfl, hMe, ke⟩ := hpost.all
      clear hpost hMe HDc
      generalize oX (decB fb) = Xf at *
      generalize hfdef : oE (decB fb) = f at *
      clear hfdef
      unfold vbl
      have ke' := kd'.trans ke
      have hMf := hMd'.grew ke
      have hez := ke'.alloc (.cells (cells5 zc (.slice none 0 0)).toArray 59)
      have hfz := (hMf.alloc (.cells (cells5 zc (.slice none 0 0)).toArray 59))
      have hflt := fun i e => (hMf.lt i e).2
      have hse := ke'.size
      clear hMd' hMf kd kd' hGd hkl
      go_wp2_with (first | (refine st5 59 infoB (.tmp 18) (.tmp 74) we.heap.size Xf zc (.slice Ae ne ce) (.slice none 0 0) 59 rfl rfl rfl rfl rfl (Box.new we 59 (cells5 zc (.slice none 0 0)).toArray) ?_; intro wg bxg kg; have kg' : Grew wr wg := (Keeps.then_ hez kg (fun i hi e => by omega)); have hMg := hfz.keep kg (fun i e e2 => by have := hflt i e; omega); clear kg bxg))
      refine (HAr.out wg).mono ?_
      rintro e wh ⟨rfl, hwh⟩
      rw [hwh]
      clear hwh wh HAr hez hfz hflt
      have rowL := HK.out.rowL.grew kg'
      have rows := HK.out.rows.grew kg'
      have HR := Lib.hid rowL.rd
      have hG0 := HK.out.grew
      have HRO := Lib.hid rows
      have hcl := rows.cell
      have hL4 : ([] ++ List.take k us).length = k := by rw [List.nil_append, List.length_take, HUL.out]; omega
      have hD4 : (List.drop k us).length = m1 - k := by rw [List.length_drop, HUL.out]
      go_upto_region 20 with (first
        | (refine sl_to slBs rfl (.tmp 82) (.tmp 83) rfl rfl rfl (by omega) HR.out ?_; intro A4 c4 r4)
        | (at_builtin; refine app_any (v := .slice none 0 0) slBs rfl (.tmp 81) (.tmp 84) rfl rfl (Mine.nil _ wg.heap.size 33) rfl r4 (fun u hu => hcl u (List.mem_of_mem_take hu)) (by rw [← List.length_append, hL4]; omega) (Nat.le_refl _) ?_; intro A5 m5 c5 w5 hm5 hM5 hk5 hO5))
      have g5 : Grew wg w5 := Keeps.then_ (Grew.refl wg) hk5 (fun i hi (e : (Value.slice none 0 0).ownBlock = some i) => by cases e)
      have hs5 := g5.size
      go_upto_region 21 with (first
        | (at_builtin; refine app_one slBs rfl (.tmp 86) (.tmp 88) rfl rfl (hM5.alloc _) w5.heap.size 1 (.slice Af nf cf) rfl (Nat.le_refl _) (by simp) (by simp) rfl (by rw [hL4]; omega) (by simp; omega) ?_; intro r6 c6 w6 hM6 hk6 hr6 hb6 hl6))
      have g6 : Grew wg w6 := (g5.alloc _).app (hM5.alloc _) hk6
      have hs6 := g6.size
      have hR6 := HR.out.grew (Nat.le_refl _) g6
      rw [hL4] at hM6
      have hmk : min k us.length = k := by rw [HUL.out]; omega
      first | rw [hmk] | rw [hL4] | skip
      go_wp2_with (first
        | (refine sl_from slBs rfl (.tmp 91) (.tmp 92) rfl rfl rfl (by omega) hR6 ?_; intro A7 m7 c7 hm7 r7)
        | (at_builtin; (refine app_any (v := .slice (some ⟨r6, 0, none⟩) (k + 1) c6) slBs rfl (.tmp 90) (.tmp 93) rfl rfl hM6 rfl r7 (fun u hu => hcl u (List.mem_of_mem_drop hu)) (by simp only [List.length_append, List.length_nil, List.length_singleton, List.length_take, List.length_drop, HUL.out]; omega) (by omega) ?_); intro A8 m8 c8 w8 hm8 hM8 hk8' hO8))
      have g8 : Grew wg w8 := g6.app hM6 hk8'
      have hG8 : Grew w w8 := hG0.trans (kg'.trans g8)
      have rows8 := ((HRO.out.grew g8).take k).app (RowsB.one (hMg.grew g8)) |>.app ((HRO.out.grew g8).drop k)
      rw [List.nil_append] at hM8
      have HI2 := Lib.hid (ids_any _ _ w8 (rows8.rd hM8.rd) HOKm.out (by rw [List.length_append, List.length_append, List.length_take, List.length_drop, HHL.out]; simp; omega) (HT.out.on hG8) (HP.out.on hG8))
      refine HI2.out.mono ?_
      rintro e w9 ⟨A9, n9, c9, rfl, hM9, k9⟩
      rw [HFEm.out]
      have hG9 := hG8.trans k9
      have HLv := Lib.hid (lives18_any w9 (HT.out.on hG9) (HP.out.on hG9))
      have tf : (f == f) = true := by simp
      by_cases hf0 : f = 0
      · subst hf0
        go_wp2_with fail
        refine HLv.out.mono ?_
        rintro e w10 ⟨rfl, k10⟩
        go_wp2_with fail
        go_ret
        exact ⟨rfl, hG9.trans k10⟩
      · have hn9 : n9 = 0 := by
          rw [idsOut_err (by rw [HFEm.out]; exact hf0)] at hM9
          exact hM9.len
        subst hn9
        have tz : (f == 0) = false := by simpa using hf0
        go_wp2_with fail
        refine HLv.out.mono ?_
        rintro e w10 ⟨rfl, k10⟩
        go_wp2_with fail
        go_ret
        exact ⟨rfl, hG9.trans k10⟩
end Go.Proofs.YtgajmhpnilkmiaaDoor
