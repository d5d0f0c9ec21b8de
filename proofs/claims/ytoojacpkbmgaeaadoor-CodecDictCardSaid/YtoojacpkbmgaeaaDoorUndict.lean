/- codec.Undict: the words at the indices, or an error where an index is out of range. -/
import Derived.Test.YtoojacpkbmgaeaaDoorLives
namespace Go.Proofs.YtoojacpkbmgaeaaDoor
open Go.RowKit Pl

def inW (n : Nat) (l : List Int) : Prop := ∀ i ∈ l, 0 ≤ i ∧ i < n
def undict (ws : List Str) (l : List Int) : List Str := l.map fun i => ws.getD i.toNat []
def UndPost (ws : List Str) (l : List Int) (w : World) (e : Ending) (w' : World) : Prop :=
  Grew w w' ∧ ((inW ws.length l ∧ ∃ v, e = .returned (.tuple #[v, .int .i64 0]) ∧ Mine w' w.heap.size 9 v ((undict ws l).map vs)) ∨ (¬ inW ws.length l ∧ e = .returned (.tuple #[.slice none 0 0, .int .i64 1])))

set_option maxHeartbeats 3200000 in
set_option maxRecDepth 100000 in
theorem undict_any (v u : Value) (ws : List Str) (l : List Int) (w : World) (h : Rd w w.heap.size v (ws.map vs)) (k : Rd w w.heap.size u (l.map vi)) (hi : ∀ x ∈ l, I64 x) (hw : ws.length ≤ 1000000000) (hl : l.length ≤ 1000000000) :
    Calls Tryd.prog 37 #[v, u] w (UndPost ws l w) := by
  obtain ⟨A, n, c, rfl, hn, hc⟩ := h.form
  obtain ⟨B, m, d, rfl, hm, hd⟩ := k.form
  rw [List.length_map] at hn hm
  have hnl : n ≤ 1000000000 := by omega
  have hml : m ≤ 1000000000 := by omega
  have HN := Lib.hid hn
  have HM := Lib.hid hm
  have HI := Lib.hid hi
  have H := Lib.hid h
  have K := Lib.hid k
  clear hn hm hi h k
  go_enter Tryd.func37, Tryd.ntmps37
  go_wp2_with fail
  go_loopw [6, 11] (fun a i wr => ∃ (j m1 : Nat) (A1 : Option Addr) (c1 : Nat), j ≤ m ∧ i = .int .i64 j ∧ a = .slice A1 m1 c1 ∧
      Mine wr w.heap.size 9 (.slice A1 m1 c1) ((undict ws (l.take j)).map vs) ∧ inW n (l.take j) ∧ Grew w wr) (fun _ i _ => m - (intOf i).toNat)
  case atStart => exact ⟨0, 0, none, 0, by omega, rfl, rfl, by simpa [undict] using Mine.nil _ w.heap.size 9, by simp [inW], Grew.refl w⟩
  case round =>
    obtain ⟨j, m1, A1, c1, hj, rfl, rfl, hM, hin, hG⟩ := hrel
    have hsz := hG.size
    have HIN := Lib.hid hin
    clear hin
    by_cases hlt : j < m
    · have hjl : j < l.length := by rw [← HM.out]; exact hlt
      obtain ⟨ad, rfl, hadb, hcell⟩ := (K.out.grew (Nat.le_refl _) hG).int_at hjl
      have htk : l.take (j + 1) = l.take j ++ [l.getD j 0] := by
        rw [List.take_add_one, List.getElem?_eq_getElem hjl, List.getD_eq_getElem?_getD, List.getElem?_eq_getElem hjl]; rfl
      have hmem : l.getD j 0 ∈ l := by
        rw [List.getD_eq_getElem?_getD, List.getElem?_eq_getElem hjl]; exact List.getElem_mem hjl
      have hx := HI.out _ hmem
      have hul : ((undict ws (l.take j)).map vs).length < 1099511627776 := by
        unfold undict; rw [List.length_map, List.length_map, List.length_take]; omega
      have HTK := Lib.hid htk
      have HMEM := Lib.hid hmem
      clear htk hmem hjl
      unfold I64 at hx
      by_cases hb : 0 ≤ l.getD j 0 ∧ l.getD j 0 < n
      · obtain ⟨q, hq⟩ : ∃ q : Nat, l.getD j 0 = (q : Int) := ⟨(l.getD j 0).toNat, by omega⟩
        rw [hq] at hcell hb hx
        have hqn : q < n := by omega
        have hqw : q < ws.length := by rw [← HN.out]; exact hqn
        obtain ⟨ad2, rfl, hadb2, hcell2⟩ := (H.out.grew (Nat.le_refl _) hG).str_at hqw
        have hnext : undict ws (l.take (j + 1)) = undict ws (l.take j) ++ [ws.getD q []] := by
          rw [HTK.out, hq]; unfold undict; rw [List.map_append]; simp
        have hin2 : inW n (l.take (j + 1)) := by
          rw [HTK.out, hq]
          intro i hi
          rcases List.mem_append.1 hi with h1 | h1
          · exact HIN.out i h1
          · obtain rfl := List.mem_singleton.1 h1
            omega
        have HNX := Lib.hid hnext
        have HI2 := Lib.hid hin2
        clear hnext hin2 hq hb hx hqw
        generalize ws.getD q [] = s at *
        go_wp2_with (at_builtin; refine app_one slStr rfl (.tmp 23) (.tmp 28) rfl rfl (hM.alloc _) wr.heap.size 1 (.string ⟨s.toArray⟩) rfl (Nat.le_refl _) (by simp) (by simp) rfl hul (by simp; omega) ?k)
        case k =>
        intro r cap w5 hM5 hk5 hr5 hbr5 hlr5
        have hG5 : Grew w w5 := (hG.alloc _).app (hM.alloc _) hk5
        have HM5 := Lib.hid hM5
        clear hM5 hk5 hM
        go_wp2_with fail
        go_roundw
        case rel =>
          refine ⟨j + 1, _, _, _, by omega, by go_num, rfl, ?_, HI2.out, hG5⟩
          rw [HNX.out, List.map_append]; exact HM5.out
        case measure => simp [intOf]; omega
      · have hnot : ¬ inW ws.length l := by
          intro ha
          have := ha _ HMEM.out
          rw [← HN.out] at this
          exact hb this
        have HNOT := Lib.hid hnot
        clear hnot
        generalize l.getD j 0 = x at *
        by_cases hneg : x < 0
        · clear hb
          go_wp2_with fail
          go_ret2
          exact ⟨hG, .inr ⟨HNOT.out, rfl⟩⟩
        · have hge : (n : Int) ≤ x := by omega
          have hge0 : 0 ≤ x := by omega
          clear hb hneg
          go_wp2_with fail
          go_ret2
          exact ⟨hG, .inr ⟨HNOT.out, rfl⟩⟩
    · go_wp2_with fail
      go_ret2
      have hfull : l.take j = l := List.take_of_length_le (by rw [← HM.out]; omega)
      have hin := HIN.out
      rw [hfull] at hM hin
      rw [HN.out] at hin
      exact ⟨hG, .inl ⟨hin, _, rfl, hM⟩⟩
end Go.Proofs.YtoojacpkbmgaeaaDoor
