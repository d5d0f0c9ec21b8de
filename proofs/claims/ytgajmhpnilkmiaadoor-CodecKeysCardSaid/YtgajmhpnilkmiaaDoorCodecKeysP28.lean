/- The law CodecKeys, walked: it returns true and leaves what was there. -/
import Derived.Test.YtgajmhpnilkmiaaDoorCodecKeysP25
import Derived.Test.YtgajmhpnilkmiaaDoorCodecKeysP27
import Derived.Test.YtgajmhpnilkmiaaDoorCodecKeysP11
import Derived.StillTailTactics
namespace Go.Proofs.YtgajmhpnilkmiaaDoor
open Go.RowKit Pl

structure KSt (w wr : World) (v : Value) (ks : List Str) (j : Nat) : Prop where
  row : Mine wr w.heap.size 9 v (ks.map vs)
  len : ks.length = j
  small : ∀ s ∈ ks, s.length ≤ 300
  grew : Grew w wr

set_option maxHeartbeats 12800000 in
set_option maxRecDepth 100000 in
theorem codecKeys_walk (v0 v1 : Value) (_ m : List Int) (w : World) (h1 : Rd w w.heap.size v1 (m.map vi)) (hm : ∀ x ∈ m, I64 x) (hml : m.length ≤ 1000000000000000) (ht : Tab w w.heap.size) (hv0 : ∃ A n c, v0 = .slice A n c) :
    Calls Tryd.prog 3 #[v0, v1] w fun e w' => e = .returned (.bool true) ∧ Grew w w' := by
  obtain ⟨A0, n0, c0, rfl⟩ := hv0
  obtain ⟨A, n, c, rfl, hn, hc⟩ := h1.form
  rw [List.length_map] at hn
  have hnl : n ≤ 1000000000000000 := by omega
  have HN := Lib.hid hn
  have HM := Lib.hid hm
  have H1 := Lib.hid h1
  have HT := Lib.hid ht
  clear hn hm h1 ht hml
  go_enter Tryd.func3, Tryd.ntmps3
  go_wp2_with fail
  go_loopw [5, 6, 7] (fun a b i wr => ∃ (j q : Nat) (A1 : Option Addr) (m1 c1 : Nat) (ks : List Str), j ≤ n ∧ j ≤ 8 ∧ i = .int .i64 j ∧ b = .int .i64 q ∧ q = (dwords ks).length ∧ a = .slice A1 m1 c1 ∧ KSt w wr (.slice A1 m1 c1) ks j) (fun _ _ i _ => n - (intOf i).toNat)
  case atStart => exact ⟨0, 0, none, 0, 0, [], by omega, by omega, rfl, rfl, rfl, rfl, Mine.nil _ _ _, rfl, by simp, Grew.refl w⟩
  case round =>
    obtain ⟨j, q, A1, m1, c1, ks, hj, hj8, rfl, rfl, hq, rfl, K⟩ := hrel
    have HQ := Lib.hid hq
    have hmj : m1 = j := by have := K.row.len; rw [← K.len]; simpa using this
    subst hmj
    have HK := Lib.hid K
    clear hq K
    by_cases hlt : m1 < n
    · by_cases h8 : m1 < 8
      · have hjl : m1 < m.length := by rw [← HN.out]; exact hlt
        obtain ⟨ad, u, rfl, hadb, hu, hcell⟩ := (H1.out.grew (Nat.le_refl _) HK.out.grew).at_ (j := m1) (by rw [List.length_map]; exact hjl)
        obtain rfl : vi m[m1] = u := by
          rw [List.getElem?_map, List.getElem?_eq_getElem hjl] at hu
          injection hu
        have hxi := HM.out m[m1] (List.getElem_mem hjl)
        generalize m[m1] = x at *
        unfold vi at hcell
        have HXI := Lib.hid hxi
        clear hu hjl hxi hadb
        go_upto_region 6 with fail
        go_still_tail 14, (by kernel_rfl)
        change wpList _ _ _ _ _ wr.drew
        have hr0 := Rd.laid wr 3 [.int .i64 x, .int .i64 0, .int .i64 0, .int .i64 (wrap64 (x.tdiv 3)), .int .i64 (wrap64 (x.tdiv 5))]
        have hg0 : Grew wr (wr.alloc (.cells #[.int .i64 x, .int .i64 0, .int .i64 0, .int .i64 (wrap64 (x.tdiv 3)), .int .i64 (wrap64 (x.tdiv 5))] 3)) := (Grew.refl wr).alloc _
        have hg1 : Grew wr (wr.alloc (.cells #[.int .i64 x, .int .i64 0, .int .i64 0, .int .i64 (wrap64 (x.tdiv 3)), .int .i64 (wrap64 (x.tdiv 5))] 3)).drew := Keeps.drew hg0
        have hD := decl_any _ [x, 0, 0, wrap64 (x.tdiv 3), wrap64 (x.tdiv 5)] (wr.alloc (.cells #[.int .i64 x, .int .i64 0, .int .i64 0, .int .i64 (wrap64 (x.tdiv 3)), .int .i64 (wrap64 (x.tdiv 5))] 3)).drew ((hr0.grew (by simp) (Keeps.drew (Grew.refl _))).more (by simp)) (by
          intro y hy
          simp only [List.mem_cons, List.not_mem_nil, or_false] at hy
          rcases hy with rfl | rfl | rfl | rfl | rfl
          · exact HXI.out
          · unfold I64; omega
          · unfold I64; omega
          · exact wrap_I64 _
          · exact wrap_I64 _) (by simp)
        have HD := Lib.hid hD
        have HG1 := Lib.hid (HK.out.grew.trans hg1)
        have HK1 := Lib.hid (HK.out.row.grew hg1)
        clear hr0 hg0 hg1 hD
        go_wp2_with fail
        refine HD.out.mono ?_
        rintro e wd ⟨vl, ls, rfl, hL, hl2, kd⟩
        have hNm := nameOf_size (pickV [x, 0, 0, wrap64 (x.tdiv 3), wrap64 (x.tdiv 5)] 3 2)
        have hKy := fun dd => key_any (nameOf (pickV [x, 0, 0, wrap64 (x.tdiv 3), wrap64 (x.tdiv 5)] 3 2)) vl ls dd wd hNm hL hl2
        generalize nameOf (pickV [x, 0, 0, wrap64 (x.tdiv 3), wrap64 (x.tdiv 5)] 3 2) = nm at *
        obtain ⟨AL, cL, rfl⟩ := hL.slc
        have hgd := HG1.out.trans kd
        have hmd := HK1.out.grew kd
        unfold vdecl at hKy ⊢
        have HKy := Lib.hid hKy
        have HGd := Lib.hid hgd
        have HMd := Lib.hid hmd
        generalize declK _ _ _ _ _ _ _ = dd at *
        clear hKy hNm hL HD HG1 HK1 kd hgd hmd hcell
        go_wp2_with fail
        refine (HKy.out _).mono ?_
        rintro e wk ⟨s0, rfl, hs0, kk⟩
        have hgk := HGd.out.trans kk
        have hmk := HMd.out.grew kk
        obtain ⟨s, rfl⟩ : ∃ s : Str, s0 = ⟨s.toArray⟩ := ⟨s0.data.toList, by cases s0; rfl⟩
        have hsl : s.length ≤ 300 := by rw [← str_size]; exact hs0
        have HGk := Lib.hid hgk
        have HMk := Lib.hid hmk
        clear HKy HGd HMd kk hgk hmk hs0
        have HSm := Lib.hid HK.out.small
        have hkl := HK.out.len
        have HKl := Lib.hid hkl
        clear HK hkl
        clear H1 HXI
        have HRow := Lib.hid HMk.out.rd
        go_wp2_with fail
        go_loopw [9, 10] (fun f k wr2 => ∃ (i n2 : Nat) (b : Bool), i ≤ m1 ∧ k = .int .i64 i ∧ f = .bool b ∧ b = decide (¬ s ∈ ks.take i) ∧ wr2 = wk.drewN n2) (fun _ k _ => m1 - (intOf k).toNat)
        case atStart => exact ⟨0, 0, true, by omega, rfl, rfl, by simp, rfl⟩
        case round =>
          obtain ⟨i, n2, b, hi, rfl, rfl, hb, rfl⟩ := hrel
          have HB := Lib.hid hb
          clear hb
          by_cases hlti : i < m1
          · have hil : i < ks.length := by rw [HKl.out]; exact hlti
            obtain ⟨ad2, rfl, hadb2, hcell2⟩ := HRow.out.str_at hil
            have HS := Lib.hid (mem_take_succ hil s)
            generalize ks.getD i [] = y at *
            cases b
            · have hfin : false = decide (¬ s ∈ ks.take (i + 1)) := by
                have h1 := HB.out
                have h2 := HS.out
                simp at h1 ⊢
                exact h2.2 (.inl h1)
              have HF := Lib.hid hfin
              clear hfin hil hadb2
              go_wp2_with fail
              go_roundw
              case rel => exact ⟨i + 1, n2, false, by omega, by go_num, rfl, HF.out, rfl⟩
              case measure => simp [intOf]; omega
            · by_cases hys : y = s
              · have hfin : false = decide (¬ s ∈ ks.take (i + 1)) := by
                  have h2 := HS.out
                  simp
                  exact h2.2 (.inr hys)
                have HF := Lib.hid hfin
                subst hys
                clear hfin hil hadb2
                go_wp2_with fail
                go_roundw
                case rel => exact ⟨i + 1, n2, false, by omega, by go_num, rfl, HF.out, rfl⟩
                case measure => simp [intOf]; omega
              · have hfin : true = decide (¬ s ∈ ks.take (i + 1)) := by
                  have h1 := HB.out
                  have h2 := HS.out
                  simp at h1 ⊢
                  exact fun h => (h2.1 h).elim h1 hys
                have HF := Lib.hid hfin
                have tx : (y == s) = false := by rw [beq_eq_false_iff_ne]; exact hys
                clear hfin hil hadb2 hys
                go_wp2_with fail
                go_roundw
                case rel => exact ⟨i + 1, n2, true, by omega, by go_num, rfl, HF.out, rfl⟩
                case measure => simp [intOf]; omega
          · obtain rfl : i = m1 := by omega
            have hb2 := HB.out
            rw [List.take_of_length_le (by rw [HKl.out]; exact Nat.le_refl _)] at hb2
            have HGz := Lib.hid (HGk.out.drewN n2)
            have HMz := Lib.hid (show Mine (wk.drewN n2) w.heap.size 9 (.slice A1 i c1) (ks.map vs) from HMk.out)
            have hxl : (ks.map vs).length < 1099511627776 := by rw [List.length_map, HKl.out]; omega
            have hsz := HGz.out.size
            generalize wk.drewN n2 = wz at *
            have hql : q ≤ 8 := by
              have h1 := dwords_length_le ks
              have h2 := HKl.out
              have h3 := HQ.out
              omega
            clear HRow HB HGk HMk
            cases b
            · have hfin : q = (dwords (ks ++ [s])).length := by
                rw [dwords_old (by simpa using hb2), HQ.out]
              have HFin := Lib.hid hfin
              clear hfin hb2
              go_wp2_with (at_builtin; refine app_one slStr rfl (.tmp 67) (.tmp 69) rfl rfl (HMz.out.alloc _) wz.heap.size 1 (.string ⟨s.toArray⟩) rfl (Nat.le_refl _) (by simp) (by simp) rfl hxl (by simp; omega) ?_; intro r cap w5 hM5 hk5 hr5 hbr5 hlr5; have HGG := Lib.hid ((HGz.out.alloc _).app (HMz.out.alloc _) hk5); have HM5 := Lib.hid hM5; clear hM5 hk5 HMz)
              go_roundw
              case rel =>
                refine ⟨i + 1, q, _, _, _, ks ++ [s], by omega, by omega, by go_num, by go_num, HFin.out, rfl, ?_, by rw [List.length_append, HKl.out]; rfl, fun y hy => ?_, HGG.out⟩
                · rw [List.map_append]
                  have hM6 := HM5.out
                  rw [List.length_map] at hM6
                  exact hM6
                · rcases List.mem_append.1 hy with h | h
                  · exact HSm.out y h
                  · obtain rfl := List.mem_singleton.1 h
                    exact hsl
              case measure => simp [intOf]; omega
            · have hfin : q + 1 = (dwords (ks ++ [s])).length := by
                rw [dwords_fresh (by simpa using hb2), HQ.out]
              have HFin := Lib.hid hfin
              clear hfin hb2
              go_wp2_with (at_builtin; refine app_one slStr rfl (.tmp 67) (.tmp 69) rfl rfl (HMz.out.alloc _) wz.heap.size 1 (.string ⟨s.toArray⟩) rfl (Nat.le_refl _) (by simp) (by simp) rfl hxl (by simp; omega) ?_; intro r cap w5 hM5 hk5 hr5 hbr5 hlr5; have HGG := Lib.hid ((HGz.out.alloc _).app (HMz.out.alloc _) hk5); have HM5 := Lib.hid hM5; clear hM5 hk5 HMz)
              go_roundw
              case rel =>
                refine ⟨i + 1, q + 1, _, _, _, ks ++ [s], by omega, by omega, by go_num, by go_num, HFin.out, rfl, ?_, by rw [List.length_append, HKl.out]; rfl, fun y hy => ?_, HGG.out⟩
                · rw [List.map_append]
                  have hM6 := HM5.out
                  rw [List.length_map] at hM6
                  exact hM6
                · rcases List.mem_append.1 hy with h | h
                  · exact HSm.out y h
                  · obtain rfl := List.mem_singleton.1 h
                    exact hsl
              case measure => simp [intOf]; omega
      · have t8 : decide (m1 < 8) = false := by simp; omega
        have t8i : decide ((m1 : Int) < 8) = false := by simp; omega
        clear h8
        have hks := HK.out.len
        have hqw := HQ.out
        have hwl := dwords_length_le ks
        have HDi := Lib.hid (dict_any _ ks wr HK.out.row.rd (by omega) (fun s hs => by have := HK.out.small s hs; omega))
        have HU := Lib.hid (undict_didx ks)
        have HKS8 := Lib.hid (show ks.length ≤ 8 by omega)
        have HIn := Lib.hid (didx_in ks)
        have hixl := didx_length ks
        have HI64 := Lib.hid (didx_i64 (l := ks) (by omega))
        have HSm := Lib.hid (dwords_small HK.out.small)
        have HGr := Lib.hid HK.out.grew
        have HKs := Lib.hid HK.out.row
        clear HK H1 HM HN
        go_wp2_with fail
        refine HDi.out.mono ?_
        rintro e wD ⟨vw, vx, rfl, hW, hX, kD⟩
        clear HDi
        generalize dwords ks = ws at *
        generalize didx ks = ix at *
        obtain ⟨Aw, nw, cw, rfl, hnw⟩ := hW.slice
        obtain ⟨Ax, nx, cx, rfl, hnx⟩ := hX.slice
        rw [List.length_map] at hnw hnx
        obtain rfl : nw = q := by omega
        have hq8 : nw ≤ 8 := by omega
        have hnx8 : nx ≤ 8 := by omega
        have HNW := Lib.hid hnw
        have HIL := Lib.hid (show ix.length ≤ 8 by omega)
        have HKD := Lib.hid (HKs.out.grew kD)
        have hGD := HGr.out.trans kD
        have HGD := Lib.hid hGD
        have HW := Lib.hid hW.rd
        have HX := Lib.hid hX.rd
        have hW0 : WW (wD.alloc (.cells #[.slice none 0 0] 35)) wD.heap.size wD.heap.size (.slice none 0 0) (txts (ws.take 0)) := by
          refine ⟨Box.new wD _ _, ?_⟩
          simpa [txts] using Mine.nil _ wD.heap.size 5
        have HW0 := Lib.hid hW0
        have HG0 := Lib.hid (show Grew wD (wD.alloc (.cells #[.slice none 0 0] 35)) from (Grew.refl wD).alloc _)
        clear hW0 hW hX hqw hwl hks hixl hnw hnx hGD kD HGr HKs HQ
        go_wp2_with fail
        go_loopw [14] (fun i wr => ∃ (j : Nat) (v3 : Value), j ≤ nw ∧ i = .int .i64 j ∧ WW wr wD.heap.size wD.heap.size v3 (txts (ws.take j)) ∧ Grew wD wr) (fun i _ => nw - (intOf i).toNat)
        case atStart => exact ⟨0, _, by omega, rfl, HW0.out, HG0.out⟩
        case round =>
          obtain ⟨j, v3, hj3, rfl, hW3, hG3⟩ := hrel
          have hs3 := hG3.size
          by_cases hlt3 : j < nw
          · have hjl : j < ws.length := by rw [← HNW.out]; exact hlt3
            obtain ⟨ad, rfl, hadb, hcell⟩ := (HW.out.grew (Nat.le_refl _) hG3).str_at hjl
            have hsl : (ws.getD j []).length ≤ 300 := by
              rw [List.getD_eq_getElem?_getD, List.getElem?_eq_getElem hjl]; exact HSm.out _ (List.getElem_mem hjl)
            have htx := txts_take hjl
            have htl := txts_len (ws.take j) (fun s hs => HSm.out s (List.mem_of_mem_take hs))
            have htl2 : (ws.take j).length ≤ 8 := by rw [List.length_take]; omega
            have HTx := Lib.hid (wtext_any wD.heap.size wD.heap.size v3 _ ⟨(ws.getD j []).toArray⟩ wr hW3 (Nat.le_refl _) (by omega) (by rw [str_size]; omega) hs3)
            unfold txt at htx
            have HTT := Lib.hid htx
            have HG3 := Lib.hid hG3
            clear hW3 htx htl htl2 hsl hjl hadb hG3
            generalize ws.getD j [] = s at *
            go_wp2_with fail
            refine HTx.out.mono ?_
            rintro e w4 ⟨rfl, v4, hW4, k4⟩
            have hG4 : Grew wD w4 := Keeps.then_ HG3.out k4 (fun i hi e => by omega)
            rw [← HTT.out] at hW4
            clear HTx k4 HTT
            go_wp2_with fail
            go_roundw
            case rel => exact ⟨j + 1, v4, by omega, by go_num, hW4, hG4⟩
            case measure => simp [intOf]; omega
          · obtain rfl : nw = j := by omega
            rw [List.take_of_length_le (by rw [← HNW.out]; exact Nat.le_refl _)] at hW3
            have htl := txts_len ws HSm.out
            rw [← HNW.out] at htl
            have hG3w := HGD.out.trans hG3
            have HCi := Lib.hid (cints_any _ ix wr ((HX.out.grew (Nat.le_refl _) hG3).more hs3) HI64.out (by have := HIL.out; omega) (HT.out.on hG3w))
            have hib := ints_small ix HIL.out
            have hibb := pack_bytes (ints ix)
            have HRI := Lib.hid (readInts_ints ix HI64.out (by have := HIL.out; omega))
            have HTB := Lib.hid (bytes_app (txts_bytes ws) (rawB_bytes hibb))
            generalize pack (ints ix) = ib at *
            have HIB := Lib.hid hibb
            have HW3 := Lib.hid hW3
            have HG3 := Lib.hid hG3
            clear hibb hW3 hG3 hG3w hlt3
            go_wp2_with fail
            refine HCi.out.mono ?_
            rintro e w4 ⟨vi4, rfl, hM4, k4⟩
            have hW4 : WW w4 wD.heap.size wD.heap.size v3 (txts ws) := ⟨HW3.out.1.grew k4, HW3.out.2.grew k4⟩
            have hG4 := HG3.out.trans k4
            have hs4 := hG4.size
            have hg3 := HW3.out.1.lt
            have hux : ∀ k, vi4.ownBlock = some k → k ≠ wD.heap.size ∧ v3.ownBlock ≠ some k := fun k e => by
              have h1 := hM4.lt k e
              refine ⟨by omega, fun e2 => ?_⟩
              have h2 := HW3.out.2.lt k e2
              omega
            have HWr := Lib.hid (wraw_any wD.heap.size wD.heap.size v3 vi4 _ ib w4 hW4 hM4.rd hux (by omega) (by omega) hs4)
            have hb3 : ∀ i, v3.ownBlock = some i → wD.heap.size ≤ i := fun i e => (HW3.out.2.lt i e).1
            have HB3 := Lib.hid hb3
            have HG4 := Lib.hid hG4
            obtain ⟨Ai, ni, ci, rfl, -⟩ := hM4.slice
            clear HCi hM4 k4 hW4 hG4 hux hb3 HW3 HG3
            go_wp2_with fail
            refine HWr.out.mono ?_
            rintro e w5 ⟨rfl, v5, hW5, k5, -⟩
            have hG5 : Grew wD w5 := Keeps.then_ HG4.out k5 (fun i hi e => by
              rcases e with e | e
              · omega
              · have := HB3.out i e; omega)
            have hrl : (txts ws ++ rawB ib).length ≤ 100000 := by
              unfold rawB
              have := vint_len10 (n := ib.length) (by omega)
              simp only [List.length_append]
              omega
            have HDn := Lib.hid (wwdone_any wD.heap.size wD.heap.size v5 _ w5 hW5 (by omega))
            have HG5 := Lib.hid hG5
            have HRL := Lib.hid hrl
            clear HWr hW5 k5 hG5 hrl HB3 HG4
            go_wp2_with fail
            refine HDn.out.mono ?_
            rintro e w6 ⟨v6, rfl, hM6, k6⟩
            have hG6 := HG5.out.trans k6
            have HRd := Lib.hid (readR_any v6 _ w6 hM6.rd HTB.out (by have := HRL.out; omega))
            obtain ⟨A6, n6, c6, rfl, -⟩ := hM6.slice
            have HG6 := Lib.hid hG6
            clear HDn hM6 k6 hG6 HG5 HTB
            go_wp2_with fail
            refine HRd.out.mono ?_
            rintro e w7 ⟨g7, u7, rfl, hR7, hg7, k7⟩
            have HR7 := Lib.hid hR7
            have HG7 := Lib.hid k7
            clear HRd hR7 k7
            go_wp2_with fail
            go_loopw [16, 17] (fun b i wr => ∃ (j a mb cb : Nat) (Ab : Option Addr), j ≤ nw ∧ i = .int .i64 j ∧ b = .slice Ab mb cb ∧ Mine wr w6.heap.size 9 (.slice Ab mb cb) ((ws.take j).map vs) ∧ WR wr w6.heap.size g7 u7 (txts ws ++ rawB ib) a 0 ∧ (txts ws ++ rawB ib).drop a = txts (ws.drop j) ++ rawB ib ∧ Grew w6 wr) (fun _ i _ => nw - (intOf i).toNat)
            case atStart => exact ⟨0, 0, 0, 0, none, by omega, rfl, rfl, by simpa using Mine.nil _ w6.heap.size 9, HR7.out, rfl, HG7.out⟩
            case round =>
              obtain ⟨j, a, mb, cb, Ab, hj4, rfl, rfl, hM4, hR4, hd4, hG4⟩ := hrel
              have hs4 := hG4.size
              by_cases hlt4 : j < nw
              · have hjl : j < ws.length := by rw [← HNW.out]; exact hlt4
                have hsl : (ws.getD j []).length ≤ 300 := by
                  rw [List.getD_eq_getElem?_getD, List.getElem?_eq_getElem hjl]; exact HSm.out _ (List.getElem_mem hjl)
                have htk : ws.take (j + 1) = ws.take j ++ [ws.getD j []] := by
                  rw [List.take_add_one, List.getElem?_eq_getElem hjl, List.getD_eq_getElem?_getD, List.getElem?_eq_getElem hjl]; rfl
                rw [txts_drop hjl, List.append_assoc] at hd4
                have HTx := Lib.hid (textR_any g7 w6.heap.size u7 _ a ⟨(ws.getD j []).toArray⟩ _ wr hR4 hd4 (by rw [str_size]; omega))
                have htl : ((ws.take j).map vs).length < 1099511627776 := by rw [List.length_map, List.length_take]; omega
                have HTK := Lib.hid htk
                have HM4 := Lib.hid hM4
                have HR4 := Lib.hid hR4
                have HG4 := Lib.hid hG4
                clear hM4 hR4 hG4 hd4 hsl htk hjl
                generalize ws.getD j [] = s at *
                go_wp2_with fail
                refine HTx.out.mono ?_
                rintro e w8 ⟨rfl, k8, a8, hR8, hd8⟩
                have hM8 := HM4.out.keepR k8 HR4.out.box (by decide)
                have hG8 : Grew w6 w8 := Keeps.then_ HG4.out k8 (fun i hi e => by omega)
                have hs8 := hG8.size
                have HD8 := Lib.hid hd8
                clear HTx HM4 HR4 HG4 k8 hd8
                go_wp2_with (at_builtin; refine app_one slStr rfl (.tmp 100) (.tmp 103) rfl rfl (hM8.alloc _) w8.heap.size 1 (.string ⟨s.toArray⟩) rfl (Nat.le_refl _) (by simp) (by simp) rfl htl (by simp; omega) ?_; intro r cap w9 hM9 hk9 hr9 hbr9 hlr9)
                have HG9 := Lib.hid ((hG8.alloc _).app (hM8.alloc _) hk9)
                have HR9 := Lib.hid (show WR w9 w6.heap.size g7 u7 (txts ws ++ rawB ib) a8 0 from ⟨(hR8.box.alloc _).keep hk9 (fun e1 => hM8.ne_box e1 hR8.box (by decide) rfl), (hR8.row.alloc _).aside (hM8.alloc _) (by decide) hk9, hR8.bytes, hR8.small, hR8.here⟩)
                have HM9 := Lib.hid hM9
                clear hM9 hk9 hM8 hR8 hG8
                go_wp2_with fail
                go_roundw
                case rel =>
                  refine ⟨j + 1, a8, _, _, _, by omega, by go_num, rfl, ?_, HR9.out, HD8.out, HG9.out⟩
                  rw [HTK.out, List.map_append]
                  have hM9 := HM9.out
                  rw [List.length_map, List.length_take] at hM9
                  exact hM9
                case measure => simp [intOf]; omega
              · obtain rfl : nw = j := by omega
                have hwn := HNW.out
                rw [List.take_of_length_le (by omega)] at hM4
                rw [List.drop_of_length_le (l := ws) (by omega), show txts [] = [] from rfl, List.nil_append] at hd4
                have hr : sRaw (stP (txts ws ++ rawB ib) a 0) = (ib, .inr []) := by
                  rw [stP_ok, hd4, ← List.append_nil (rawB ib)]
                  exact sRaw_ok' ib [] (by omega)
                have hRw := rawR_any g7 w6.heap.size u7 _ a 0 wr hR4
                rw [hr] at hRw
                have HRw := Lib.hid hRw
                have HM4 := Lib.hid hM4
                have HB4 := Lib.hid hR4.box
                have HG4 := Lib.hid hG4
                generalize txts ws ++ rawB ib = bs at *
                clear hRw hM4 hR4 hG4 hr hd4 hlt4 hwn
                go_wp2_with fail
                refine HRw.out.mono ?_
                rintro e w8 ⟨u8', rfl, hU8, k8, a8, er8, hR8, hst8⟩
                have hM8 := HM4.out.keepR k8 HB4.out (by decide)
                have hG8 : Grew w6 w8 := Keeps.then_ HG4.out k8 (fun i hi e => by omega)
                have hG8w := HGD.out.trans (HG6.out.trans hG8)
                have hRI := readInts_any _ ib w8 hU8.rd HIB.out (by omega) (HT.out.on hG8w)
                rw [HRI.out] at hRI
                have HRI2 := Lib.hid hRI
                obtain ⟨A8, n8, c8, rfl, -⟩ := hU8.slice
                have HM8 := Lib.hid hM8
                have HG8 := Lib.hid hG8
                have HR8 := Lib.hid hR8
                have HST := Lib.hid hst8
                clear HRw hM8 hU8 k8 hG8 hG8w hRI hR8 hst8 HM4 HB4 HG4
                go_wp2_with fail
                refine HRI2.out.mono ?_
                rintro e w9 ⟨k9, v9, rfl, hM9⟩
                obtain ⟨A9, n9, c9, rfl, -⟩ := hM9.slice
                have HUn := Lib.hid (undict_any _ _ ws ix w9 (HM8.out.grew k9).rd hM9.rd HI64.out (by rw [← HNW.out]; omega) (by have := HIL.out; omega))
                have HG9 := Lib.hid (HG8.out.trans k9)
                have HR9 := Lib.hid (show WR w9 w6.heap.size g7 u7 bs a8 er8 from ⟨HR8.out.box.grew k9, HR8.out.row.grew k9, HR8.out.bytes, HR8.out.small, HR8.out.here⟩)
                clear HRI2 hM9 k9 HM8 HG8 HR8
                go_wp2_with fail
                refine HUn.out.mono ?_
                rintro e w10 ⟨k10, hcase⟩
                obtain ⟨-, v10, rfl, hM10⟩ : inW ws.length ix ∧ ∃ v, e = .returned (.tuple #[v, .int .i64 0]) ∧ Mine w10 w9.heap.size 9 v ((undict ws ix).map vs) := by
                  rcases hcase with h | h
                  · exact h
                  · exact absurd HIn.out h.1
                clear hcase
                rw [HU.out] at hM10
                obtain ⟨A10, n10, c10, rfl, -⟩ := hM10.slice
                have hG10 := HG9.out.trans k10
                have hE := endR_any g7 w6.heap.size u7 bs a8 er8 w10 ⟨HR9.out.box.grew k10, HR9.out.row.grew k10, HR9.out.bytes, HR9.out.small, HR9.out.here⟩
                rw [HST.out] at hE
                change Calls _ _ _ _ (fun e w' => e = .returned (.int .i64 0) ∧ ∃ n, w' = w10.drewN n) at hE
                have HE := Lib.hid hE
                have HGw := Lib.hid (HG6.out.trans hG10)
                have HM10 := Lib.hid hM10
                have HK10 := Lib.hid (HKD.out.grew (HG6.out.trans hG10))
                clear HUn hM10 k10 hG10 hE HR9 HG9 HST
                go_wp2_with fail
                refine HE.out.mono ?_
                rintro e w11 ⟨rfl, n11, rfl⟩
                have HG11 := Lib.hid ((HGD.out.trans HGw.out).drewN n11)
                have hST := sameTexts_any _ _ ks ks (w10.drewN n11) (show Rd (w10.drewN n11) _ _ _ from HM10.out.rd) (show Rd (w10.drewN n11) _ _ _ from HK10.out.rd) (by have := HKS8.out; omega) (by have := HKS8.out; omega)
                rw [show decide (ks = ks) = true by simp] at hST
                have HST := Lib.hid hST
                generalize w10.drewN n11 = w12 at *
                clear HE hST
                go_wp2_with fail
                refine HST.out.mono ?_
                rintro e w13 ⟨rfl, n13, rfl⟩
                have HG13 := Lib.hid (HG11.out.drewN n13)
                have HLv := Lib.hid (lives_any (w12.drewN n13) (HT.out.on HG13.out))
                generalize w12.drewN n13 = w14 at *
                clear HST
                go_wp2_with fail
                refine HLv.out.mono ?_
                rintro e w15 ⟨rfl, k15⟩
                go_wp2_with fail
                go_ret
                exact ⟨rfl, HG13.out.trans k15⟩
    · have hks := HK.out.len
      have hqw := HQ.out
      have hwl := dwords_length_le ks
      have HDi := Lib.hid (dict_any _ ks wr HK.out.row.rd (by omega) (fun s hs => by have := HK.out.small s hs; omega))
      have HU := Lib.hid (undict_didx ks)
      have HKS8 := Lib.hid (show ks.length ≤ 8 by omega)
      have HIn := Lib.hid (didx_in ks)
      have hixl := didx_length ks
      have HI64 := Lib.hid (didx_i64 (l := ks) (by omega))
      have HSm := Lib.hid (dwords_small HK.out.small)
      have HGr := Lib.hid HK.out.grew
      have HKs := Lib.hid HK.out.row
      clear HK H1 HM HN
      go_wp2_with fail
      refine HDi.out.mono ?_
      rintro e wD ⟨vw, vx, rfl, hW, hX, kD⟩
      clear HDi
      generalize dwords ks = ws at *
      generalize didx ks = ix at *
      obtain ⟨Aw, nw, cw, rfl, hnw⟩ := hW.slice
      obtain ⟨Ax, nx, cx, rfl, hnx⟩ := hX.slice
      rw [List.length_map] at hnw hnx
      obtain rfl : nw = q := by omega
      have hq8 : nw ≤ 8 := by omega
      have hnx8 : nx ≤ 8 := by omega
      have HNW := Lib.hid hnw
      have HIL := Lib.hid (show ix.length ≤ 8 by omega)
      have HKD := Lib.hid (HKs.out.grew kD)
      have hGD := HGr.out.trans kD
      have HGD := Lib.hid hGD
      have HW := Lib.hid hW.rd
      have HX := Lib.hid hX.rd
      have hW0 : WW (wD.alloc (.cells #[.slice none 0 0] 35)) wD.heap.size wD.heap.size (.slice none 0 0) (txts (ws.take 0)) := by
        refine ⟨Box.new wD _ _, ?_⟩
        simpa [txts] using Mine.nil _ wD.heap.size 5
      have HW0 := Lib.hid hW0
      have HG0 := Lib.hid (show Grew wD (wD.alloc (.cells #[.slice none 0 0] 35)) from (Grew.refl wD).alloc _)
      clear hW0 hW hX hqw hwl hks hixl hnw hnx hGD kD HGr HKs HQ
      go_wp2_with fail
      go_loopw [14] (fun i wr => ∃ (j : Nat) (v3 : Value), j ≤ nw ∧ i = .int .i64 j ∧ WW wr wD.heap.size wD.heap.size v3 (txts (ws.take j)) ∧ Grew wD wr) (fun i _ => nw - (intOf i).toNat)
      case atStart => exact ⟨0, _, by omega, rfl, HW0.out, HG0.out⟩
      case round =>
        obtain ⟨j, v3, hj3, rfl, hW3, hG3⟩ := hrel
        have hs3 := hG3.size
        by_cases hlt3 : j < nw
        · have hjl : j < ws.length := by rw [← HNW.out]; exact hlt3
          obtain ⟨ad, rfl, hadb, hcell⟩ := (HW.out.grew (Nat.le_refl _) hG3).str_at hjl
          have hsl : (ws.getD j []).length ≤ 300 := by
            rw [List.getD_eq_getElem?_getD, List.getElem?_eq_getElem hjl]; exact HSm.out _ (List.getElem_mem hjl)
          have htx := txts_take hjl
          have htl := txts_len (ws.take j) (fun s hs => HSm.out s (List.mem_of_mem_take hs))
          have htl2 : (ws.take j).length ≤ 8 := by rw [List.length_take]; omega
          have HTx := Lib.hid (wtext_any wD.heap.size wD.heap.size v3 _ ⟨(ws.getD j []).toArray⟩ wr hW3 (Nat.le_refl _) (by omega) (by rw [str_size]; omega) hs3)
          unfold txt at htx
          have HTT := Lib.hid htx
          have HG3 := Lib.hid hG3
          clear hW3 htx htl htl2 hsl hjl hadb hG3
          generalize ws.getD j [] = s at *
          go_wp2_with fail
          refine HTx.out.mono ?_
          rintro e w4 ⟨rfl, v4, hW4, k4⟩
          have hG4 : Grew wD w4 := Keeps.then_ HG3.out k4 (fun i hi e => by omega)
          rw [← HTT.out] at hW4
          clear HTx k4 HTT
          go_wp2_with fail
          go_roundw
          case rel => exact ⟨j + 1, v4, by omega, by go_num, hW4, hG4⟩
          case measure => simp [intOf]; omega
        · obtain rfl : nw = j := by omega
          rw [List.take_of_length_le (by rw [← HNW.out]; exact Nat.le_refl _)] at hW3
          have htl := txts_len ws HSm.out
          rw [← HNW.out] at htl
          have hG3w := HGD.out.trans hG3
          have HCi := Lib.hid (cints_any _ ix wr ((HX.out.grew (Nat.le_refl _) hG3).more hs3) HI64.out (by have := HIL.out; omega) (HT.out.on hG3w))
          have hib := ints_small ix HIL.out
          have hibb := pack_bytes (ints ix)
          have HRI := Lib.hid (readInts_ints ix HI64.out (by have := HIL.out; omega))
          have HTB := Lib.hid (bytes_app (txts_bytes ws) (rawB_bytes hibb))
          generalize pack (ints ix) = ib at *
          have HIB := Lib.hid hibb
          have HW3 := Lib.hid hW3
          have HG3 := Lib.hid hG3
          clear hibb hW3 hG3 hG3w hlt3
          go_wp2_with fail
          refine HCi.out.mono ?_
          rintro e w4 ⟨vi4, rfl, hM4, k4⟩
          have hW4 : WW w4 wD.heap.size wD.heap.size v3 (txts ws) := ⟨HW3.out.1.grew k4, HW3.out.2.grew k4⟩
          have hG4 := HG3.out.trans k4
          have hs4 := hG4.size
          have hg3 := HW3.out.1.lt
          have hux : ∀ k, vi4.ownBlock = some k → k ≠ wD.heap.size ∧ v3.ownBlock ≠ some k := fun k e => by
            have h1 := hM4.lt k e
            refine ⟨by omega, fun e2 => ?_⟩
            have h2 := HW3.out.2.lt k e2
            omega
          have HWr := Lib.hid (wraw_any wD.heap.size wD.heap.size v3 vi4 _ ib w4 hW4 hM4.rd hux (by omega) (by omega) hs4)
          have hb3 : ∀ i, v3.ownBlock = some i → wD.heap.size ≤ i := fun i e => (HW3.out.2.lt i e).1
          have HB3 := Lib.hid hb3
          have HG4 := Lib.hid hG4
          obtain ⟨Ai, ni, ci, rfl, -⟩ := hM4.slice
          clear HCi hM4 k4 hW4 hG4 hux hb3 HW3 HG3
          go_wp2_with fail
          refine HWr.out.mono ?_
          rintro e w5 ⟨rfl, v5, hW5, k5, -⟩
          have hG5 : Grew wD w5 := Keeps.then_ HG4.out k5 (fun i hi e => by
            rcases e with e | e
            · omega
            · have := HB3.out i e; omega)
          have hrl : (txts ws ++ rawB ib).length ≤ 100000 := by
            unfold rawB
            have := vint_len10 (n := ib.length) (by omega)
            simp only [List.length_append]
            omega
          have HDn := Lib.hid (wwdone_any wD.heap.size wD.heap.size v5 _ w5 hW5 (by omega))
          have HG5 := Lib.hid hG5
          have HRL := Lib.hid hrl
          clear HWr hW5 k5 hG5 hrl HB3 HG4
          go_wp2_with fail
          refine HDn.out.mono ?_
          rintro e w6 ⟨v6, rfl, hM6, k6⟩
          have hG6 := HG5.out.trans k6
          have HRd := Lib.hid (readR_any v6 _ w6 hM6.rd HTB.out (by have := HRL.out; omega))
          obtain ⟨A6, n6, c6, rfl, -⟩ := hM6.slice
          have HG6 := Lib.hid hG6
          clear HDn hM6 k6 hG6 HG5 HTB
          go_wp2_with fail
          refine HRd.out.mono ?_
          rintro e w7 ⟨g7, u7, rfl, hR7, hg7, k7⟩
          have HR7 := Lib.hid hR7
          have HG7 := Lib.hid k7
          clear HRd hR7 k7
          go_wp2_with fail
          go_loopw [16, 17] (fun b i wr => ∃ (j a mb cb : Nat) (Ab : Option Addr), j ≤ nw ∧ i = .int .i64 j ∧ b = .slice Ab mb cb ∧ Mine wr w6.heap.size 9 (.slice Ab mb cb) ((ws.take j).map vs) ∧ WR wr w6.heap.size g7 u7 (txts ws ++ rawB ib) a 0 ∧ (txts ws ++ rawB ib).drop a = txts (ws.drop j) ++ rawB ib ∧ Grew w6 wr) (fun _ i _ => nw - (intOf i).toNat)
          case atStart => exact ⟨0, 0, 0, 0, none, by omega, rfl, rfl, by simpa using Mine.nil _ w6.heap.size 9, HR7.out, rfl, HG7.out⟩
          case round =>
            obtain ⟨j, a, mb, cb, Ab, hj4, rfl, rfl, hM4, hR4, hd4, hG4⟩ := hrel
            have hs4 := hG4.size
            by_cases hlt4 : j < nw
            · have hjl : j < ws.length := by rw [← HNW.out]; exact hlt4
              have hsl : (ws.getD j []).length ≤ 300 := by
                rw [List.getD_eq_getElem?_getD, List.getElem?_eq_getElem hjl]; exact HSm.out _ (List.getElem_mem hjl)
              have htk : ws.take (j + 1) = ws.take j ++ [ws.getD j []] := by
                rw [List.take_add_one, List.getElem?_eq_getElem hjl, List.getD_eq_getElem?_getD, List.getElem?_eq_getElem hjl]; rfl
              rw [txts_drop hjl, List.append_assoc] at hd4
              have HTx := Lib.hid (textR_any g7 w6.heap.size u7 _ a ⟨(ws.getD j []).toArray⟩ _ wr hR4 hd4 (by rw [str_size]; omega))
              have htl : ((ws.take j).map vs).length < 1099511627776 := by rw [List.length_map, List.length_take]; omega
              have HTK := Lib.hid htk
              have HM4 := Lib.hid hM4
              have HR4 := Lib.hid hR4
              have HG4 := Lib.hid hG4
              clear hM4 hR4 hG4 hd4 hsl htk hjl
              generalize ws.getD j [] = s at *
              go_wp2_with fail
              refine HTx.out.mono ?_
              rintro e w8 ⟨rfl, k8, a8, hR8, hd8⟩
              have hM8 := HM4.out.keepR k8 HR4.out.box (by decide)
              have hG8 : Grew w6 w8 := Keeps.then_ HG4.out k8 (fun i hi e => by omega)
              have hs8 := hG8.size
              have HD8 := Lib.hid hd8
              clear HTx HM4 HR4 HG4 k8 hd8
              go_wp2_with (at_builtin; refine app_one slStr rfl (.tmp 100) (.tmp 103) rfl rfl (hM8.alloc _) w8.heap.size 1 (.string ⟨s.toArray⟩) rfl (Nat.le_refl _) (by simp) (by simp) rfl htl (by simp; omega) ?_; intro r cap w9 hM9 hk9 hr9 hbr9 hlr9)
              have HG9 := Lib.hid ((hG8.alloc _).app (hM8.alloc _) hk9)
              have HR9 := Lib.hid (show WR w9 w6.heap.size g7 u7 (txts ws ++ rawB ib) a8 0 from ⟨(hR8.box.alloc _).keep hk9 (fun e1 => hM8.ne_box e1 hR8.box (by decide) rfl), (hR8.row.alloc _).aside (hM8.alloc _) (by decide) hk9, hR8.bytes, hR8.small, hR8.here⟩)
              have HM9 := Lib.hid hM9
              clear hM9 hk9 hM8 hR8 hG8
              go_wp2_with fail
              go_roundw
              case rel =>
                refine ⟨j + 1, a8, _, _, _, by omega, by go_num, rfl, ?_, HR9.out, HD8.out, HG9.out⟩
                rw [HTK.out, List.map_append]
                have hM9 := HM9.out
                rw [List.length_map, List.length_take] at hM9
                exact hM9
              case measure => simp [intOf]; omega
            · obtain rfl : nw = j := by omega
              have hwn := HNW.out
              rw [List.take_of_length_le (by omega)] at hM4
              rw [List.drop_of_length_le (l := ws) (by omega), show txts [] = [] from rfl, List.nil_append] at hd4
              have hr : sRaw (stP (txts ws ++ rawB ib) a 0) = (ib, .inr []) := by
                rw [stP_ok, hd4, ← List.append_nil (rawB ib)]
                exact sRaw_ok' ib [] (by omega)
              have hRw := rawR_any g7 w6.heap.size u7 _ a 0 wr hR4
              rw [hr] at hRw
              have HRw := Lib.hid hRw
              have HM4 := Lib.hid hM4
              have HB4 := Lib.hid hR4.box
              have HG4 := Lib.hid hG4
              generalize txts ws ++ rawB ib = bs at *
              clear hRw hM4 hR4 hG4 hr hd4 hlt4 hwn
              go_wp2_with fail
              refine HRw.out.mono ?_
              rintro e w8 ⟨u8', rfl, hU8, k8, a8, er8, hR8, hst8⟩
              have hM8 := HM4.out.keepR k8 HB4.out (by decide)
              have hG8 : Grew w6 w8 := Keeps.then_ HG4.out k8 (fun i hi e => by omega)
              have hG8w := HGD.out.trans (HG6.out.trans hG8)
              have hRI := readInts_any _ ib w8 hU8.rd HIB.out (by omega) (HT.out.on hG8w)
              rw [HRI.out] at hRI
              have HRI2 := Lib.hid hRI
              obtain ⟨A8, n8, c8, rfl, -⟩ := hU8.slice
              have HM8 := Lib.hid hM8
              have HG8 := Lib.hid hG8
              have HR8 := Lib.hid hR8
              have HST := Lib.hid hst8
              clear HRw hM8 hU8 k8 hG8 hG8w hRI hR8 hst8 HM4 HB4 HG4
              go_wp2_with fail
              refine HRI2.out.mono ?_
              rintro e w9 ⟨k9, v9, rfl, hM9⟩
              obtain ⟨A9, n9, c9, rfl, -⟩ := hM9.slice
              have HUn := Lib.hid (undict_any _ _ ws ix w9 (HM8.out.grew k9).rd hM9.rd HI64.out (by rw [← HNW.out]; omega) (by have := HIL.out; omega))
              have HG9 := Lib.hid (HG8.out.trans k9)
              have HR9 := Lib.hid (show WR w9 w6.heap.size g7 u7 bs a8 er8 from ⟨HR8.out.box.grew k9, HR8.out.row.grew k9, HR8.out.bytes, HR8.out.small, HR8.out.here⟩)
              clear HRI2 hM9 k9 HM8 HG8 HR8
              go_wp2_with fail
              refine HUn.out.mono ?_
              rintro e w10 ⟨k10, hcase⟩
              obtain ⟨-, v10, rfl, hM10⟩ : inW ws.length ix ∧ ∃ v, e = .returned (.tuple #[v, .int .i64 0]) ∧ Mine w10 w9.heap.size 9 v ((undict ws ix).map vs) := by
                rcases hcase with h | h
                · exact h
                · exact absurd HIn.out h.1
              clear hcase
              rw [HU.out] at hM10
              obtain ⟨A10, n10, c10, rfl, -⟩ := hM10.slice
              have hG10 := HG9.out.trans k10
              have hE := endR_any g7 w6.heap.size u7 bs a8 er8 w10 ⟨HR9.out.box.grew k10, HR9.out.row.grew k10, HR9.out.bytes, HR9.out.small, HR9.out.here⟩
              rw [HST.out] at hE
              change Calls _ _ _ _ (fun e w' => e = .returned (.int .i64 0) ∧ ∃ n, w' = w10.drewN n) at hE
              have HE := Lib.hid hE
              have HGw := Lib.hid (HG6.out.trans hG10)
              have HM10 := Lib.hid hM10
              have HK10 := Lib.hid (HKD.out.grew (HG6.out.trans hG10))
              clear HUn hM10 k10 hG10 hE HR9 HG9 HST
              go_wp2_with fail
              refine HE.out.mono ?_
              rintro e w11 ⟨rfl, n11, rfl⟩
              have HG11 := Lib.hid ((HGD.out.trans HGw.out).drewN n11)
              have hST := sameTexts_any _ _ ks ks (w10.drewN n11) (show Rd (w10.drewN n11) _ _ _ from HM10.out.rd) (show Rd (w10.drewN n11) _ _ _ from HK10.out.rd) (by have := HKS8.out; omega) (by have := HKS8.out; omega)
              rw [show decide (ks = ks) = true by simp] at hST
              have HST := Lib.hid hST
              generalize w10.drewN n11 = w12 at *
              clear HE hST
              go_wp2_with fail
              refine HST.out.mono ?_
              rintro e w13 ⟨rfl, n13, rfl⟩
              have HG13 := Lib.hid (HG11.out.drewN n13)
              have HLv := Lib.hid (lives_any (w12.drewN n13) (HT.out.on HG13.out))
              generalize w12.drewN n13 = w14 at *
              clear HST
              go_wp2_with fail
              refine HLv.out.mono ?_
              rintro e w15 ⟨rfl, k15⟩
              go_wp2_with fail
              go_ret
              exact ⟨rfl, HG13.out.trans k15⟩
end Go.Proofs.YtgajmhpnilkmiaaDoor
