/- The reference: Second, Ints, Unpack. -/
import Derived.Test.YtoojacpkbmgaeaaDoorCode
namespace Go.Proofs.YtoojacpkbmgaeaaDoor
open Go.RowKit Pl

theorem Rd.int_at {w : World} {B : Nat} {A : Option Addr} {n c j : Nat} {l : List Int} (h : Rd w B (.slice A n c) (l.map vi)) (hj : j < l.length) : ∃ ad, A = some ad ∧ ad.block < B ∧ w.cell? (ad.add j) = some (.int .i64 (l.getD j 0)) := by
  obtain ⟨ad, u, rfl, hadb, hu, hcell⟩ := h.at_ (j := j) (by rw [List.length_map]; exact hj)
  refine ⟨ad, rfl, hadb, ?_⟩
  rw [List.getElem?_map, List.getElem?_eq_getElem hj] at hu
  rw [hcell, ← Option.some.inj hu, List.getD_eq_getElem?_getD, List.getElem?_eq_getElem hj]; rfl
theorem getD_I64 {l : List Int} (hi : ∀ x ∈ l, I64 x) (j : Nat) : I64 (l.getD j 0) := by
  rw [List.getD_eq_getElem?_getD]
  by_cases hj : j < l.length
  · rw [List.getElem?_eq_getElem hj]; exact hi _ (List.getElem_mem hj)
  · rw [List.getElem?_eq_none (by omega)]; show I64 0; unfold I64; omega
theorem seconds_I64 (b a : Int) (l : List Int) : ∀ x ∈ seconds b a l, I64 x := by
  induction l generalizing b a with
  | nil => intro x hx; simp [seconds] at hx
  | cons y l ih =>
    intro x hx
    simp only [seconds, List.mem_cons] at hx
    rcases hx with rfl | hx
    · exact wrap_I64 _
    · exact ih _ _ x hx

set_option maxHeartbeats 3200000 in
set_option maxRecDepth 100000 in
theorem second_any (v : Value) (l : List Int) (w : World) (h : Rd w w.heap.size v (l.map vi)) (hi : ∀ x ∈ l, I64 x) (hl : l.length ≤ 1000000000) :
    Calls Tryd.prog 70 #[v] w fun e w' => ∃ v', e = .returned v' ∧ Mine w' w.heap.size 3 v' ((seconds 0 0 l).map vi) ∧ Grew w w' := by
  obtain ⟨A, n, c, rfl, hn, hc⟩ := h.form
  rw [List.length_map] at hn
  have hnl : n ≤ 1000000000 := by omega
  have HN := Lib.hid hn
  have HI := Lib.hid hi
  have H := Lib.hid h
  clear hn hi h
  go_enter Tryd.func70, Tryd.ntmps70
  go_wp2_with fail
  go_loopw [3, 4] (fun a i wr => ∃ (j m : Nat) (A : Option Addr) (c : Nat), j ≤ n ∧ i = .int .i64 j ∧ a = .slice A m c ∧ Mine wr w.heap.size 3 (.slice A m c) (((seconds 0 0 l).take j).map vi) ∧ Grew w wr) (fun _ i _ => n - (intOf i).toNat)
  case atStart => exact ⟨0, 0, none, 0, by omega, rfl, rfl, by simpa using Mine.nil w w.heap.size 3, Grew.refl _⟩
  case round =>
    obtain ⟨j, m, B, d, hj, rfl, rfl, hM, hG⟩ := hrel
    have hsz := hG.size
    by_cases hlt : j < n
    · have hjl : j < l.length := by rw [← HN.out]; exact hlt
      have hR := H.out.grew (Nat.le_refl _) hG
      have hst := seconds_take l j hjl
      have HST := Lib.hid hst
      have hbl : (((seconds 0 0 l).take j).map vi).length < 1099511627776 := by
        rw [List.length_map, List.length_take, seconds_length]; omega
      obtain ⟨ad, rfl, hadb, hc0⟩ := hR.int_at hjl
      have hx := getD_I64 HI.out j
      have fin : ∀ (y : Int) (r q cap : Nat) (w1 : World), y = wrap64 (l.getD j 0 - 2 * p1 l j + p2 l j) → Mine w1 w.heap.size 3 (.slice (some ⟨r, 0, none⟩) q cap) (((seconds 0 0 l).take j).map vi ++ [.int .i64 y]) → Mine w1 w.heap.size 3 (.slice (some ⟨r, 0, none⟩) q cap) (((seconds 0 0 l).take (j + 1)).map vi) := by
        intro y r q cap w1 hy hq
        rw [HST.out, List.map_append, ← hy]
        exact hq
      have FIN := Lib.hid fin
      clear hst fin
      rcases Nat.lt_or_ge j 1 with h1 | h1
      · obtain rfl : j = 0 := by omega
        have hy : l.getD 0 0 = wrap64 (l.getD 0 0 - 2 * p1 l 0 + p2 l 0) := by
          rw [p1_zero, p2_zero, show l.getD 0 0 - 2 * 0 + 0 = l.getD 0 0 by omega, wrap_of hx]
        have HY := Lib.hid hy
        clear hy hx hR
        generalize l.getD 0 0 = x at *
        simp only [Addr.add, if_true] at hc0
        go_wp2_with (at_builtin; refine app_one slInt rfl (.tmp 35) (.tmp 37) rfl rfl (hM.alloc _) wr.heap.size 1 (.int .i64 x) rfl (Nat.le_refl _) (by simp) (by simp) rfl hbl (by simp; omega) ?k)
        case k =>
        intro r cap w1 hM1 hk1 hr hbr hlr
        have hG1 : Grew w w1 := (hG.alloc _).app (hM.alloc _) hk1
        have HM2 := Lib.hid (FIN.out _ r _ cap w1 HY.out (by simpa using hM1))
        clear hM1 hk1 hM hbl
        go_wp2_with fail
        go_roundw
        case rel => exact ⟨1, _, _, _, by omega, by go_num, rfl, HM2.out, hG1⟩
        case measure => simp [intOf]; omega
      · obtain ⟨ad', hA, _, hc1⟩ := hR.int_at (j := j - 1) (by omega)
        injection hA with hA
        subst hA
        rcases Nat.lt_or_ge j 2 with h2 | h2
        · have hy : wrap64 (l.getD j 0 - wrap64 (2 * l.getD (j - 1) 0)) = wrap64 (l.getD j 0 - 2 * p1 l j + p2 l j) := by
            obtain rfl : j = 1 := by omega
            rw [p1_succ, p2_succ, p1_zero]; unfold wrap64; simp only [Nat.sub_self]; omega
          have HY := Lib.hid hy
          clear hy hx hR
          generalize l.getD j 0 = y at *
          generalize l.getD (j - 1) 0 = x at *
          go_wp2_with (at_builtin; refine app_one slInt rfl (.tmp 35) (.tmp 37) rfl rfl (hM.alloc _) wr.heap.size 1 (.int .i64 (wrap64 (y - wrap64 (2 * x)))) rfl (Nat.le_refl _) (by simp) (by simp) rfl hbl (by simp; omega) ?k)
          case k =>
          intro r cap w1 hM1 hk1 hr hbr hlr
          have hG1 : Grew w w1 := (hG.alloc _).app (hM.alloc _) hk1
          have HM2 := Lib.hid (FIN.out _ r _ cap w1 HY.out (by simpa using hM1))
          clear hM1 hk1 hM hbl
          go_wp2_with fail
          go_roundw
          case rel => exact ⟨j + 1, _, _, _, by omega, by go_num, rfl, HM2.out, hG1⟩
          case measure => simp [intOf]; omega
        · obtain ⟨ad'', hA, _, hc2⟩ := hR.int_at (j := j - 2) (by omega)
          injection hA with hA
          subst hA
          have hy : wrap64 (wrap64 (l.getD j 0 - wrap64 (2 * l.getD (j - 1) 0)) + l.getD (j - 2) 0) = wrap64 (l.getD j 0 - 2 * p1 l j + p2 l j) := by
            obtain ⟨k, rfl⟩ : ∃ k, j = k + 1 + 1 := ⟨j - 2, by omega⟩
            rw [p1_succ, p2_succ, p1_succ, wrap_sec]; rfl
          have HY := Lib.hid hy
          clear hy hx hR
          generalize l.getD j 0 = z at *
          generalize l.getD (j - 1) 0 = y at *
          generalize l.getD (j - 2) 0 = x at *
          go_wp2_with (at_builtin; refine app_one slInt rfl (.tmp 35) (.tmp 37) rfl rfl (hM.alloc _) wr.heap.size 1 (.int .i64 (wrap64 (wrap64 (z - wrap64 (2 * y)) + x))) rfl (Nat.le_refl _) (by simp) (by simp) rfl hbl (by simp; omega) ?k)
          case k =>
          intro r cap w1 hM1 hk1 hr hbr hlr
          have hG1 : Grew w w1 := (hG.alloc _).app (hM.alloc _) hk1
          have HM2 := Lib.hid (FIN.out _ r _ cap w1 HY.out (by simpa using hM1))
          clear hM1 hk1 hM hbl
          go_wp2_with fail
          go_roundw
          case rel => exact ⟨j + 1, _, _, _, by omega, by go_num, rfl, HM2.out, hG1⟩
          case measure => simp [intOf]; omega
    · go_wp2_with fail
      go_ret
      exact ⟨_, rfl, by rw [List.take_of_length_le (by rw [seconds_length, ← HN.out]; omega)] at hM; exact hM, hG⟩

theorem Mine.aside {w w' : World} {b b' : Nat} {e e' : TypeId} {v v' : Value} {xs ys : List Value} (h : Mine w b e v xs) (h' : Mine w b' e' v' ys) (hne : e' ≠ e) (hk : Keeps (fun i => v'.ownBlock = some i) w w') : Mine w' b e v xs :=
  h.keep hk fun k hk' e1 => by
    rcases h.form with ⟨rfl, _⟩ | ⟨g, cap, cur, rfl, _, hbox, _⟩
    · cases hk'
    · have : g = k := by simpa [Value.ownBlock] using hk'
      subst this
      exact h'.ne_box e1 hbox hne rfl
theorem codes_take (l : List Int) (j : Nat) (hj : j < l.length) : codes (l.take (j + 1)) = codes (l.take j) ++ code (l.getD j 0) := by
  rw [List.take_add_one, List.getElem?_eq_getElem hj, Option.toList_some, codes_snoc, List.getD_eq_getElem?_getD, List.getElem?_eq_getElem hj]; rfl

set_option maxHeartbeats 3200000 in
set_option maxRecDepth 100000 in
theorem rints_any (v : Value) (l : List Int) (w : World) (h : Rd w w.heap.size v (l.map vi)) (hi : ∀ x ∈ l, I64 x) (hl : l.length ≤ 1000000) :
    Calls Tryd.prog 24 #[v] w fun e w' => ∃ v', e = .returned v' ∧ Mine w' w.heap.size 5 v' ((pack (ints l)).map vb) ∧ Grew w w' := by
  obtain ⟨A, n, c, rfl, hn, hc⟩ := h.form
  rw [List.length_map] at hn
  have hnl : n ≤ 1000000 := by omega
  have HN := Lib.hid hn
  have HC := Lib.hid (rcode_any (n : Nat) w (by unfold I64; omega))
  have HI := Lib.hid hi
  clear hn hi
  have hdl : (seconds 0 0 l).length = n := by rw [seconds_length]; exact HN.out.symm
  have HDL := Lib.hid hdl
  have hdi := Lib.hid (seconds_I64 0 0 l)
  have hint : ints l = code n ++ codes (seconds 0 0 l) := by unfold ints; rw [← HN.out]
  have HINT := Lib.hid hint
  have HS2 := fun (w2 : World) (hg : Grew w w2) => Lib.hid (second_any _ l w2 ((h.grew (Nat.le_refl _) hg).more hg.size) HI.out (by omega))
  have HS := Lib.hid HS2
  clear hdl hint HS2 h
  generalize seconds 0 0 l = ds at *
  go_enter Tryd.func24, Tryd.ntmps24
  go_wp2_with (first
    | (go_at_call 69; refine HC.out.mono ?_; rintro e w2 ⟨v2, rfl, k1, k2⟩)
    | (go_at_call 70; refine (HS.out _ k2).out.mono ?_; rintro e w3 ⟨v3, rfl, m1, m2⟩))
  obtain ⟨A2, n2, c2, rfl, hn2⟩ := k1.slice
  obtain ⟨A3, n3, c3, rfl, hn3⟩ := m1.slice
  rw [List.length_map, HDL.out] at hn3
  subst hn3
  have k3 := k1.grew m2
  have hG3 := k2.trans m2
  have m1' := m1.base_le k2.size
  clear k1 hn2 m1
  go_loopw [3, 5] (fun a i wr => ∃ (j m : Nat) (A : Option Addr) (c : Nat), j ≤ n3 ∧ i = .int .i64 j ∧ a = .slice A m c ∧ Mine wr w.heap.size 4 (.slice A m c) ((code n3 ++ codes (ds.take j)).map vbo) ∧ Mine wr w.heap.size 3 (.slice A3 n3 c3) (ds.map vi) ∧ Grew w wr) (fun _ i _ => n3 - (intOf i).toNat)
  case atStart => exact ⟨0, _, _, _, by omega, rfl, rfl, by simpa [codes] using k3, m1', hG3⟩
  case round =>
    clear k2 m2 k3 hG3 m1'
    obtain ⟨j, m, B, d, hj, rfl, rfl, hM, hD, hG⟩ := hrel
    have hsz := hG.size
    have hlen : (code n3 ++ codes (ds.take j)).length ≤ 70 + 70 * j := by
      have h1 := code_len_le n3
      have h2 := codes_len (ds.take j)
      have h3 : (ds.take j).length ≤ j := List.length_take_le _ _
      rw [List.length_append]; omega
    by_cases hlt : j < n3
    · obtain ⟨ad, rfl, hadb, hc0⟩ := hD.rd.int_at (j := j) (by rw [HDL.out]; exact hlt)
      have hst := codes_take ds j (by rw [HDL.out]; exact hlt)
      have HST := Lib.hid hst
      have HCD := Lib.hid (rcode_any (ds.getD j 0) wr (getD_I64 hdi.out j))
      have hcl := code_len_le (ds.getD j 0)
      clear hst
      generalize ds.getD j 0 = x at *
      go_wp2_with (first
        | (go_at_call 69; refine HCD.out.mono ?_; rintro e w4 ⟨v4, rfl, p1, p2⟩)
        | (at_builtin; refine app_any slBool rfl (.tmp 17) (.tmp 22) rfl rfl (hM.grew p2) rfl p1.rd (one_vbo _) (by rw [List.length_map, List.length_map]; omega) (Nat.le_trans hsz p2.size) ?_; intro A m cap w5 hm hM5 hk5 hr5))
      have hD5 := (hD.grew p2).aside (hM.grew p2) (by decide) hk5
      have hG5 := Grew.app (hG.trans p2) (hM.grew p2) hk5
      go_roundw
      case rel => exact ⟨j + 1, _, _, _, by omega, by go_num, rfl, by rw [HST.out, ← List.append_assoc, List.map_append]; exact hM5, hD5, hG5⟩
      case measure => simp [intOf]; omega
    · have hall : code n3 ++ codes (ds.take j) = ints l := by rw [HINT.out, List.take_of_length_le (by rw [HDL.out]; omega)]
      rw [hall] at hM hlen
      have HP := Lib.hid (pack_any _ (ints l) wr hM.rd (by omega))
      clear hall
      go_wp2_with (go_at_call 71; refine HP.out.mono ?_; rintro e w4 ⟨v4, rfl, p1, p2⟩)
      go_ret
      exact ⟨_, rfl, p1.base_le hsz, hG.trans p2⟩
end Go.Proofs.YtoojacpkbmgaeaaDoor
