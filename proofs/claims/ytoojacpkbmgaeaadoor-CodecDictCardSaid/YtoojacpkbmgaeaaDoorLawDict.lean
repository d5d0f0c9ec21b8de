/- The law CodecDict, walked: it returns true and leaves what was there. -/
import Derived.Test.YtoojacpkbmgaeaaDoorRDict
import Derived.StillTailTactics
namespace Go.Proofs.YtoojacpkbmgaeaaDoor
open Go.RowKit Pl

theorem didx_in (l : List Str) : inW (dwords l).length (didx l) := by
  intro i hi
  obtain ⟨s, hs, rfl⟩ := List.mem_map.1 hi
  have := List.idxOf_lt_length_of_mem ((mem_dwords l s).2 hs)
  omega
theorem didx_in_own (l : List Str) : inW l.length (didx l) := fun i hi => by
  have h1 := didx_in l i hi
  have h2 := dwords_length_le l
  omega
theorem didx_length (l : List Str) : (didx l).length = l.length := by unfold didx; rw [List.length_map]
theorem undict_didx (l : List Str) : undict (dwords l) (didx l) = l := by
  unfold undict didx
  rw [List.map_map]
  conv => rhs; rw [← List.map_id l]
  refine List.map_congr_left fun s hs => ?_
  have hm := (mem_dwords l s).2 hs
  have hlt := List.idxOf_lt_length_of_mem hm
  show (dwords l).getD ((((dwords l).idxOf s : Nat) : Int)).toNat [] = s
  rw [Int.toNat_natCast, List.getD_eq_getElem?_getD, List.getElem?_eq_getElem hlt]
  exact List.getElem_idxOf hlt
theorem one_vs (xs : List Str) : ∀ u ∈ xs.map vs, u.oneCell' = true := by
  intro u hu
  obtain ⟨x, _, rfl⟩ := List.mem_map.1 hu
  rfl
/- an empty row that was just laid -/
theorem Mine.bare (w : World) (t : TypeId) : Mine (w.alloc (.cells #[] t)) w.heap.size t (.slice (some ⟨w.heap.size, 0, none⟩) 0 0) [] :=
  Mine.mk' (xs := []) (Nat.le_refl _) (Box.new w t #[]) (Nat.le_refl _) (Nat.zero_le _) rfl rfl
theorem didx_i64 {l : List Str} (hl : l.length ≤ 1000000000) : ∀ x ∈ didx l, I64 x := fun x hx => by
  have := didx_in_own l x hx
  unfold I64
  omega
theorem undict_last {ws : List Str} {l : List Int} {q : Nat} : (undict ws (l ++ [(q : Int)])).getD l.length [] = ws.getD q [] := by
  unfold undict
  rw [List.map_append, List.getD_eq_getElem?_getD, List.getElem?_append_right (by simp)]
  simp
theorem inW_snoc {n : Nat} {l : List Int} {x : Int} (h : inW n l) : inW n (l ++ [x]) ↔ 0 ≤ x ∧ x < n := by
  constructor
  · intro k
    exact k x (by simp)
  · intro k i hi
    rcases List.mem_append.1 hi with h1 | h1
    · exact h i h1
    · obtain rfl := List.mem_singleton.1 h1
      exact k

set_option maxHeartbeats 12800000 in
set_option maxRecDepth 100000 in
theorem codecDict_walk (v0 : Value) (ls : List Str) (a n : Int) (w : World) (h0 : Rd w w.heap.size v0 (ls.map vs)) (hz : ∀ s ∈ ls, s.length ≤ 9223372036854775807) (hn : I64 n) (ht : Tab w w.heap.size) :
    Calls Tryd.prog 6 #[v0, .int .i64 a, .int .i64 n] w fun e w' => e = .returned (.bool true) ∧ Grew w w' := by
  obtain ⟨A, q, c, rfl, hq, hc⟩ := h0.form
  rw [List.length_map] at hq
  have hcase : (¬ ((30 : Int) < (q : Int)) ∧ Rd w w.heap.size (.slice A q c) ((ls.take 30).map vs)) ∨ ((30 : Int) < (q : Int) ∧ Rd w w.heap.size (.slice A 30 c) ((ls.take 30).map vs)) := by
    by_cases h30 : q ≤ 30
    · refine .inl ⟨by omega, ?_⟩
      rw [List.take_of_length_le (by omega)]; exact h0
    · refine .inr ⟨by omega, ?_⟩
      rw [List.map_take]
      exact h0.take (by rw [List.length_map]; omega)
  have hol : (ls.take 30).length ≤ 30 := List.length_take_le _ _
  have hoz : ∀ s ∈ ls.take 30, s.length ≤ 9223372036854775807 := fun s hs => hz s (List.mem_of_mem_take hs)
  have HOZ := Lib.hid hoz
  clear hq hz hoz h0
  generalize ls.take 30 = o at *
  have hwl := dwords_length_le o
  have hxl := didx_length o
  have HXL := Lib.hid hxl
  have HT := Lib.hid ht
  clear hxl ht
  rcases hcase with ⟨t30, h2⟩ | ⟨t30, h2⟩
  all_goals have H2 := Lib.hid h2
  all_goals clear h2
  all_goals go_enter Tryd.func6, Tryd.ntmps6
  all_goals go_wp2_with (at_builtin; refine app_any slStr rfl (.tmp 14) (.tmp 19) rfl rfl (Mine.bare w _) rfl (H2.out.alloc (Nat.le_refl _) _) (one_vs _) (by simp; omega) (by simp) ?_)
  all_goals
    intro A1 m1 cap1 w1 hm1 hown hk hr
    replace hown : Mine w1 w.heap.size 9 (.slice A1 m1 cap1) (o.map vs) := by simpa using hown
    replace hm1 : o.length = m1 := by simpa using hm1
    have hG1 : Grew w w1 := ((Grew.refl w).alloc _).app (Mine.bare w _) hk
    have HM1 := Lib.hid hm1
    have hm130 : m1 ≤ 30 := by omega
    clear hk hr hm1
    have HD := Lib.hid (dict_any _ o w1 hown.rd (by omega) HOZ.out)
    go_wp2_with fail
    refine HD.out.mono ?_
    rintro e w2 ⟨v1, v2, rfl, k1, k2, k3⟩
    have hG2 := hG1.trans k3
    have HR := Lib.hid (rdict_any _ o w2 (hown.grew k3).rd (by omega))
    go_wp2_with fail
    refine HR.out.mono ?_
    rintro e w3 ⟨v3, v4, rfl, p1, p2, p3⟩
    have HU := Lib.hid (undict_any v1 v2 (dwords o) (didx o) w3 (k1.grew p3).rd (k2.grew p3).rd (didx_i64 (by omega)) (by omega) (by rw [HXL.out]; omega))
    clear HD HR
    go_wp2_with fail
    refine HU.out.mono ?_
    rintro e w4 ⟨u1, ⟨-, v5, rfl, u2⟩ | ⟨u2, -⟩⟩
    rotate_left
    · exact absurd (didx_in o) u2
    rw [undict_didx] at u2
    have HS1 := Lib.hid (sameTexts_any v1 v3 (dwords o) (dwords o) w4 ((k1.grew p3).grew u1).rd (p1.grew u1).rd (by omega) (by omega))
    rw [show decide (dwords o = dwords o) = true from by simp] at HS1
    clear HU
    go_wp2_with fail
    refine HS1.out.mono ?_
    rintro e w5 ⟨rfl, n5, h5⟩
    have g45 : Grew w4 w5 := by rw [h5]; exact (Grew.refl w4).drewN n5
    clear h5 HS1
    have HS2 := Lib.hid (sameInts_any v2 v4 (didx o) (didx o) w5 (((k2.grew p3).grew u1).grew g45).rd ((p2.grew u1).grew g45).rd (by rw [HXL.out]; omega) (by rw [HXL.out]; omega))
    rw [show decide (didx o = didx o) = true from by simp] at HS2
    go_wp2_with fail
    refine HS2.out.mono ?_
    rintro e w6 ⟨rfl, n6, h6⟩
    have g56 : Grew w5 w6 := by rw [h6]; exact (Grew.refl w5).drewN n6
    clear h6 HS2
    have g26 : Grew w2 w6 := ((p3.trans u1).trans g45).trans g56
    have HS3 := Lib.hid (sameTexts_any v5 _ o o w6 ((u2.grew g45).grew g56).rd (hown.grew (k3.trans g26)).rd (by omega) (by omega))
    rw [show decide (o = o) = true from by simp] at HS3
    go_wp2_with fail
    refine HS3.out.mono ?_
    rintro e w7 ⟨rfl, n7, h7⟩
    have g67 : Grew w6 w7 := by rw [h7]; exact (Grew.refl w6).drewN n7
    have g27 := g26.trans g67
    have M4 : Mine w7 w2.heap.size 3 v4 ((didx o).map vi) := p2.grew (((u1.trans g45).trans g56).trans g67)
    have hsz27 := g27.size
    obtain ⟨A4, q4, c4, rfl, -⟩ := M4.slice
    have hyl : ((didx o).map vi).length < 1099511627776 := by rw [List.length_map, HXL.out]; omega
    clear h7 HS3 k1 k2 p1 p2 p3 u1 u2 g45 g56 g67 g26
    go_wp2_with (at_builtin; refine app_one slInt rfl (.tmp 57) (.tmp 59) rfl rfl (M4.alloc _) w7.heap.size 1 (.int .i64 n) rfl (Nat.le_refl _) (by simp) (by simp) rfl hyl (by simp; omega) ?_)
    intro r cap w8 hM8 hk8 hr8 hbr8 hlr8
    have hlen8 : (didx o).length = m1 := by rw [HXL.out, HM1.out]
    rw [hlen8] at hM8 ⊢
    clear hlen8
    obtain ⟨m6, hm6e⟩ : ∃ m6, m6 = m1 + 1 := ⟨_, rfl⟩
    rw [← hm6e] at hM8 ⊢
    have hm16 : m1 < m6 := by omega
    have HM6 := Lib.hid hm6e
    clear hm6e
    have hG8 : Grew w2 w8 := (g27.alloc _).app (M4.alloc _) hk8
    have e8 : (didx o).map vi ++ [.int .i64 n] = (didx o ++ [n]).map vi := by rw [List.map_append]; rfl
    rw [e8] at hM8
    have own8 := hown.grew (k3.trans hG8)
    have hGw8 := hG2.trans hG8
    have HU2 := Lib.hid (undict_any (.slice A1 m1 cap1) _ o (didx o ++ [n]) w8 own8.rd hM8.rd (fun x hx => by
      rcases List.mem_append.1 hx with h1 | h1
      · exact didx_i64 (by omega) x h1
      · obtain rfl := List.mem_singleton.1 h1
        exact hn) (by omega) (by rw [List.length_append, HXL.out]; simp; omega))
    clear e8 hM8 hk8 hr8 hbr8 hlr8 M4 g27 hyl
    go_wp2_with fail
    refine HU2.out.mono ?_
    rintro e w9 ⟨u1, ⟨hin, v6, rfl, u2⟩ | ⟨hin, rfl⟩⟩
    · have hnb := (inW_snoc (didx_in_own o)).1 hin
      obtain ⟨nn, rfl⟩ : ∃ nn : Nat, n = (nn : Int) := ⟨n.toNat, by omega⟩
      have hnn : nn < m1 := by have := HM1.out; omega
      obtain ⟨A6, m6', c6, rfl, hm6⟩ := u2.slice
      obtain rfl : m6' = m6 := by
        rw [hm6, HM6.out, List.length_map]; unfold undict; rw [List.length_map, List.length_append, HXL.out, HM1.out]; rfl
      have hlast : (undict o (didx o ++ [(nn : Int)])).getD m1 [] = o.getD nn [] := by
        have := undict_last (ws := o) (l := didx o) (q := nn)
        rwa [HXL.out, HM1.out] at this
      obtain ⟨ad6, rfl, hb6, hcell6⟩ := u2.rd.str_at (j := m1) (by unfold undict; rw [List.length_map, List.length_append, HXL.out, HM1.out]; simp)
      rw [hlast] at hcell6
      have own9 := own8.grew u1
      obtain ⟨ad1, rfl, hb1, hcell1⟩ := own9.rd.str_at (j := nn) (by rw [HM1.out]; exact hnn)
      have hG9 := hGw8.trans u1
      have HLv := Lib.hid (lives_any w9.drew (HT.out.on (Keeps.drew hG9)))
      clear hlast u2 own9 own8 hin hnb hm6 HU2 hown
      generalize o.getD nn [] = s at *
      go_wp2_with fail
      go_still_tail 22, (by kernel_rfl)
      change wpList _ _ _ _ _ w9.drew
      go_wp2_with fail
      refine HLv.out.mono ?_
      rintro e wc ⟨rfl, s5⟩
      go_wp2_with fail
      go_ret
      exact ⟨rfl, Keeps.trans (Keeps.drew hG9) s5⟩
    · have hnb : n < 0 ∨ (m1 : Int) ≤ n := by
        have h1 : ¬ (0 ≤ n ∧ n < (o.length : Int)) := fun h => hin ((inW_snoc (didx_in_own o)).2 h)
        have := HM1.out
        omega
      have hG9 := hGw8.trans u1
      have HLv := Lib.hid (lives_any w9 (HT.out.on hG9))
      clear hin own8 hown HU2
      by_cases hneg : n < 0
      · clear hnb
        go_wp2_with fail
        refine HLv.out.mono ?_
        rintro e wc ⟨rfl, s5⟩
        go_wp2_with fail
        go_ret
        exact ⟨rfl, hG9.trans s5⟩
      · have hge : (m1 : Int) ≤ n := by omega
        have hge0 : 0 ≤ n := by omega
        clear hnb hneg
        go_wp2_with fail
        refine HLv.out.mono ?_
        rintro e wc ⟨rfl, s5⟩
        go_wp2_with fail
        go_ret
        exact ⟨rfl, hG9.trans s5⟩
end Go.Proofs.YtoojacpkbmgaeaaDoor
