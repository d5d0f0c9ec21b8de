/- The reference's Dict: the same words and indices. -/
import Derived.Test.YtoojacpkbmgaeaaDoorUndict
namespace Go.Proofs.YtoojacpkbmgaeaaDoor
open Go.RowKit Pl

theorem nodup_dwords (l : List Str) : (dwords l).Nodup := by
  have aux : ∀ (l ws : List Str), ws.Nodup → (l.foldl addW ws).Nodup := by
    intro l
    induction l with
    | nil => intro ws h; exact h
    | cons s l ih =>
      intro ws h
      rw [List.foldl_cons]
      apply ih
      unfold addW
      split
      · exact h
      · rename_i hs
        rw [List.nodup_append]
        refine ⟨h, by simp, ?_⟩
        intro a ha b hb e
        obtain rfl := List.mem_singleton.1 hb
        subst e
        exact hs ha
  exact aux l [] (by simp)
/- the place found among the first k words -/
def seek (ws : List Str) (s : Str) (k : Nat) : Nat := if ws.idxOf s < k then ws.idxOf s else ws.length
theorem seek_zero (ws : List Str) (s : Str) : seek ws s 0 = ws.length := by unfold seek; rw [if_neg (by omega)]
theorem seek_hit {ws : List Str} {s : Str} {k : Nat} (h : ws.Nodup) (hk : k < ws.length) (e : ws.getD k [] = s) : seek ws s (k + 1) = k := by
  rw [List.getD_eq_getElem?_getD, List.getElem?_eq_getElem hk] at e
  have e : ws[k] = s := e
  have : ws.idxOf s = k := by rw [← e]; exact h.idxOf_getElem k hk
  unfold seek
  rw [this, if_pos (by omega)]
theorem seek_miss {ws : List Str} {s : Str} {k : Nat} (hk : k < ws.length) (e : ws.getD k [] ≠ s) : seek ws s (k + 1) = seek ws s k := by
  rw [List.getD_eq_getElem?_getD, List.getElem?_eq_getElem hk] at e
  have e : ws[k] ≠ s := e
  have : ws.idxOf s ≠ k := by
    intro h
    subst h
    exact e (List.getElem_idxOf hk)
  unfold seek
  by_cases h1 : ws.idxOf s < k
  · rw [if_pos h1, if_pos (by omega)]
  · rw [if_neg h1, if_neg (by omega)]
theorem seek_all (ws : List Str) (s : Str) : seek ws s ws.length = ws.idxOf s := by
  unfold seek
  split
  · rfl
  · have := List.idxOf_le_length (a := s) (l := ws)
    omega
theorem idx_addW (ws : List Str) (s : Str) : (addW ws s).idxOf s = ws.idxOf s := by
  by_cases h : s ∈ ws
  · exact idxOf_addW h
  · rw [idxOf_new h, List.idxOf_eq_length h]

set_option maxHeartbeats 6400000 in
set_option maxRecDepth 100000 in
theorem rdict_any (v : Value) (l : List Str) (w : World) (h : Rd w w.heap.size v (l.map vs)) (hl : l.length ≤ 1000000000) :
    Calls Tryd.prog 36 #[v] w (DictPost l w) := by
  obtain ⟨A, n, c, rfl, hn, hc⟩ := h.form
  rw [List.length_map] at hn
  have hnl : n ≤ 1000000000 := by omega
  have HN := Lib.hid hn
  have H := Lib.hid h
  clear hn h
  go_enter Tryd.func36, Tryd.ntmps36
  go_wp2_with fail
  go_loopw [4, 5, 6] (fun a b i wr => ∃ (j m1 m2 : Nat) (A1 A2 : Option Addr) (c1 c2 : Nat), j ≤ n ∧ i = .int .i64 j ∧ a = .slice A1 m1 c1 ∧ b = .slice A2 m2 c2 ∧
      Mine wr w.heap.size 9 (.slice A1 m1 c1) ((dwords (l.take j)).map vs) ∧ Mine wr w.heap.size 3 (.slice A2 m2 c2) ((didx (l.take j)).map vi) ∧ Grew w wr) (fun _ _ i _ => n - (intOf i).toNat)
  case atStart => exact ⟨0, 0, 0, none, none, 0, 0, by omega, rfl, rfl, rfl, by simpa [dwords] using Mine.nil _ w.heap.size 9, by simpa [didx] using Mine.nil _ w.heap.size 3, Grew.refl w⟩
  case round =>
    obtain ⟨j, m1, m2, A1, A2, c1, c2, hj, rfl, rfl, rfl, hM1, hM2, hG⟩ := hrel
    have hsz := hG.size
    by_cases hlt : j < n
    · have hjl : j < l.length := by rw [← HN.out]; exact hlt
      obtain ⟨ad, rfl, hadb, hcell⟩ := (H.out.grew (Nat.le_refl _) hG).str_at hjl
      have htk : l.take (j + 1) = l.take j ++ [l.getD j []] := by
        rw [List.take_add_one, List.getElem?_eq_getElem hjl, List.getD_eq_getElem?_getD, List.getElem?_eq_getElem hjl]; rfl
      have hw1 : dwords (l.take (j + 1)) = addW (dwords (l.take j)) (l.getD j []) := by rw [htk, dwords_snoc]
      have hx1 : didx (l.take (j + 1)) = didx (l.take j) ++ [(((dwords (l.take j)).idxOf (l.getD j []) : Nat) : Int)] := by rw [htk, didx_snoc, idx_addW]
      have hwl : (dwords (l.take j)).length ≤ j := by
        have h1 := dwords_length_le (l.take j)
        rw [List.length_take] at h1; omega
      have hxl : (didx (l.take j)).length = j := by unfold didx; rw [List.length_map, List.length_take]; omega
      have hxl2 : ((didx (l.take j)).map vi).length < 1099511627776 := by rw [List.length_map, hxl]; omega
      have hwl2 : ((dwords (l.take j)).map vs).length < 1099511627776 := by rw [List.length_map]; omega
      have hnd := nodup_dwords (l.take j)
      have HW1 := Lib.hid hw1
      have HX1 := Lib.hid hx1
      have HND := Lib.hid hnd
      clear htk hw1 hx1 hxl hnd hjl
      generalize dwords (l.take j) = ws at *
      generalize didx (l.take j) = xs at *
      generalize l.getD j [] = s at *
      have hmml : m1 = ws.length := by have := hM1.len; simpa using this
      have HML := Lib.hid hmml
      have hm1l : m1 ≤ 1000000000 := by omega
      have h0 : seek ws s 0 = m1 := by rw [seek_zero, hmml]
      have HS0 := Lib.hid h0
      clear hmml h0
      obtain ⟨wo, hwo⟩ : ∃ wo : World, wo = wr := ⟨_, rfl⟩
      rw [← hwo] at hM1 hM2 hG hsz hcell ⊢
      clear hwo
      go_wp2_with fail
      go_loopw [7, 8] (fun a i wr => ∃ (k q : Nat), k ≤ m1 ∧ i = .int .i64 k ∧ a = .int .i64 (seek ws s k : Nat) ∧ wr = wo.drewN q) (fun _ i _ => m1 - (intOf i).toNat)
      case atStart => exact ⟨0, 0, by omega, rfl, by rw [HS0.out], rfl⟩
      case round =>
        obtain ⟨k, q, hk, rfl, rfl, rfl⟩ := hrel
        by_cases hkm : k < m1
        · have hkw : k < ws.length := by rw [← HML.out]; exact hkm
          obtain ⟨ad2, rfl, hadb2, hcell2⟩ := hM1.rd.str_at hkw
          by_cases hsame : ws.getD k [] = s
          · have hhit := seek_hit HND.out hkw hsame
            have HHIT := Lib.hid hhit
            rw [hsame] at hcell2
            clear hhit hsame hkw
            go_wp2_with fail
            go_quiet (fail)
            go_wp2_with fail
            go_roundw
            case rel => exact ⟨k + 1, _, by omega, by go_num, by rw [HHIT.out], rfl⟩
            case measure => simp [intOf]; omega
          · have hmiss := seek_miss hkw hsame
            have HMISS := Lib.hid hmiss
            have tx : (ws.getD k [] == s) = false := by rw [beq_eq_false_iff_ne]; exact hsame
            clear hmiss hsame hkw
            generalize ws.getD k [] = y at *
            go_wp2_with fail
            go_quiet (fail)
            go_wp2_with fail
            go_roundw
            case rel => exact ⟨k + 1, _, by omega, by go_num, by rw [HMISS.out], rfl⟩
            case measure => simp [intOf]; omega
        · have hkk : seek ws s k = ws.idxOf s := by
            obtain rfl : k = m1 := by omega
            rw [HML.out, seek_all]
          have hgd : Grew wo (wo.drewN q) := (Grew.refl wo).drewN q
          have hG' := hG.trans hgd
          have hM1' := hM1.grew hgd
          have hM2' := hM2.grew hgd
          have hcell' : (wo.drewN q).cell? (ad.add j) = some (.string ⟨s.toArray⟩) := hcell
          have hsz' := hG'.size
          rw [hkk]
          clear hM1 hM2 hcell hsz hG hkk hgd
          generalize wo.drewN q = w4 at *
          by_cases hin : s ∈ ws
          · have hadd : addW ws s = ws := by unfold addW; rw [if_pos hin]
            have hlt2 : ws.idxOf s < m1 := by rw [HML.out]; exact List.idxOf_lt_length_of_mem hin
            have tt : decide ((ws.idxOf s : Nat) = m1) = false := by rw [decide_eq_false_iff_not]; omega
            have HADD := Lib.hid hadd
            clear hadd hin
            generalize ws.idxOf s = p at *
            go_wp2_with (at_builtin; refine app_one slInt rfl (.tmp 44) (.tmp 46) rfl rfl (hM2'.alloc _) w4.heap.size 1 (.int .i64 (p : Nat)) rfl (Nat.le_refl _) (by simp) (by simp) rfl hxl2 (by simp; omega) ?k)
            case k =>
            intro r cap w5 hM5 hk5 hr5 hbr5 hlr5
            have hG5 : Grew w w5 := (hG'.alloc _).app (hM2'.alloc _) hk5
            have hM15 := (hM1'.alloc _).aside (hM2'.alloc _) (by decide) hk5
            have HM5 := Lib.hid hM5
            clear hM5 hk5
            go_wp2_with fail
            go_roundw
            case rel =>
              refine ⟨j + 1, _, _, _, _, _, _, by omega, by go_num, rfl, rfl, ?_, ?_, hG5⟩
              · rw [HW1.out, HADD.out]; exact hM15
              · rw [HX1.out, List.map_append]; exact HM5.out
            case measure => simp [intOf]; omega
          · have hadd : addW ws s = ws ++ [s] := by unfold addW; rw [if_neg hin]
            have hidx : ws.idxOf s = m1 := by rw [HML.out]; exact List.idxOf_eq_length hin
            have tt : decide (m1 = m1) = true := by simp
            have HADD := Lib.hid hadd
            rw [hidx]
            rw [hidx] at HX1
            clear hadd hin hidx
            go_wp2_with (first
              | (at_builtin; refine app_one slStr rfl (.tmp 37) (.tmp 42) rfl rfl (hM1'.alloc _) w4.heap.size 1 (.string ⟨s.toArray⟩) rfl (Nat.le_refl _) (by simp) (by simp) rfl hwl2 (by simp; omega) ?_; intro r5 cap5 w5 hM5 hk5 hr5 hbr5 hlr5; have hG5 := (hG'.alloc (.cells #[.string ⟨s.toArray⟩] 9)).app (hM1'.alloc _) hk5; have hM25 := (hM2'.alloc (.cells #[.string ⟨s.toArray⟩] 9)).aside (hM1'.alloc _) (by decide) hk5; have hsz5 := hG5.size)
              | (at_builtin; refine app_one slInt rfl (.tmp 44) (.tmp 46) rfl rfl (hM25.alloc _) w5.heap.size 1 (.int .i64 (m1 : Nat)) rfl (Nat.le_refl _) (by simp) (by simp) rfl hxl2 (by simp; omega) ?_; intro r6 cap6 w6 hM6 hk6 hr6 hbr6 hlr6))
            have hG6 : Grew w w6 := (hG5.alloc _).app (hM25.alloc _) hk6
            have hM56 := (hM5.alloc _).aside (hM25.alloc _) (by decide) hk6
            go_roundw
            case rel =>
              refine ⟨j + 1, _, _, _, _, _, _, by omega, by go_num, rfl, rfl, ?_, ?_, hG6⟩
              · rw [HW1.out, HADD.out, List.map_append]; rw [List.length_map] at hM56; exact hM56
              · rw [HX1.out, List.map_append]; rw [List.length_map] at hM6; exact hM6
            case measure => simp [intOf]; omega
    · go_wp2_with fail
      go_ret2
      rw [List.take_of_length_le (by rw [← HN.out]; omega)] at hM1 hM2
      exact ⟨_, _, rfl, hM1, hM2, hG⟩
end Go.Proofs.YtoojacpkbmgaeaaDoor
