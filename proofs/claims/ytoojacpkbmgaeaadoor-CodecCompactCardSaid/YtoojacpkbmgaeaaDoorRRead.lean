/- The reference's reader: Unpack, Unary, Bits, Back. -/
import Derived.Test.YtoojacpkbmgaeaaDoorReadInts
namespace Go.Proofs.YtoojacpkbmgaeaaDoor
open Go.RowKit Pl

theorem bitsOf_snoc (l : List Nat) (x : Nat) : bitsOf (l ++ [x]) = bitsOf l ++ bin x 8 := by
  apply List.ext_getElem?
  intro k
  unfold bitsOf
  rw [List.getElem?_map, List.length_append, List.length_singleton]
  by_cases hk : k < 8 * l.length
  · rw [List.getElem?_append_left (by simp; exact hk), List.getElem?_map, List.getElem?_range hk, List.getElem?_range (by omega)]
    simp only [Option.map_some]
    unfold bitAt
    rw [List.getD_eq_getElem?_getD, List.getD_eq_getElem?_getD, List.getElem?_append_left (by omega)]
  · rw [List.getElem?_append_right (by simp; omega)]
    by_cases hk2 : k < 8 * (l.length + 1)
    · rw [List.getElem?_range hk2]
      unfold bin
      rw [List.getElem?_map, List.length_map, List.length_range, List.getElem?_range (by omega)]
      simp only [Option.map_some]
      unfold bitAt
      have e1 : k / 8 = l.length := by omega
      have e2 : k % 8 = k - 8 * l.length := by omega
      rw [e1, e2, List.getD_eq_getElem?_getD, List.getElem?_append_right (Nat.le_refl _), Nat.sub_self]
      rfl
    · rw [List.getElem?_eq_none (by simp; omega), List.getElem?_eq_none (by rw [bin_length]; simp; omega)]; rfl
theorem bitsOf_take (l : List Nat) (j : Nat) (hj : j < l.length) : bitsOf (l.take (j + 1)) = bitsOf (l.take j) ++ bin (l.getD j 0) 8 := by
  rw [List.take_add_one, List.getElem?_eq_getElem hj, Option.toList_some, bitsOf_snoc, List.getD_eq_getElem?_getD, List.getElem?_eq_getElem hj]; rfl
theorem Rd.byte_at {w : World} {B : Nat} {A : Option Addr} {n c j : Nat} {l : List Nat} (h : Rd w B (.slice A n c) (l.map vb)) (hj : j < l.length) : ∃ ad, A = some ad ∧ ad.block < B ∧ w.cell? (ad.add j) = some (.int .u8 (l.getD j 0 : Nat)) := by
  obtain ⟨ad, u, rfl, hadb, hu, hcell⟩ := h.at_ (j := j) (by rw [List.length_map]; exact hj)
  refine ⟨ad, rfl, hadb, ?_⟩
  rw [List.getElem?_map, List.getElem?_eq_getElem hj] at hu
  rw [hcell, ← Option.some.inj hu, List.getD_eq_getElem?_getD, List.getElem?_eq_getElem hj]; rfl
theorem getD_byte {l : List Nat} (hi : Bytes l) (j : Nat) : l.getD j 0 < 256 := by
  rw [List.getD_eq_getElem?_getD]
  by_cases hj : j < l.length
  · rw [List.getElem?_eq_getElem hj]; exact hi _ (List.getElem_mem hj)
  · rw [List.getElem?_eq_none (by omega)]; decide

set_option maxHeartbeats 1600000 in
set_option maxRecDepth 100000 in
theorem unpack_any (v : Value) (bs : List Nat) (w : World) (h : Rd w w.heap.size v (bs.map vb)) (hb : Bytes bs) (hs : bs.length ≤ 100000000) :
    Calls Tryd.prog 75 #[v] w fun e w' => ∃ v', e = .returned v' ∧ Mine w' w.heap.size 4 v' ((bitsOf bs).map vbo) ∧ Grew w w' := by
  obtain ⟨A, n, c, rfl, hn, hc⟩ := h.form
  rw [List.length_map] at hn
  have hnl : n ≤ 100000000 := by omega
  have HN := Lib.hid hn
  have H := Lib.hid h
  clear hn h
  go_enter Tryd.func75, Tryd.ntmps75
  go_wp2_with fail
  go_loopw [3, 4] (fun a i wr => ∃ (j m : Nat) (A : Option Addr) (c : Nat), j ≤ n ∧ i = .int .i64 j ∧ a = .slice A m c ∧ Mine wr w.heap.size 4 (.slice A m c) ((bitsOf (bs.take j)).map vbo) ∧ Grew w wr) (fun _ i _ => n - (intOf i).toNat)
  case atStart => exact ⟨0, 0, none, 0, by omega, rfl, rfl, by simpa [bitsOf] using Mine.nil w w.heap.size 4, Grew.refl _⟩
  case round =>
    obtain ⟨j, m, B, d, hj, rfl, rfl, hM, hG⟩ := hrel
    have hsz := hG.size
    by_cases hlt : j < n
    · have hjl : j < bs.length := by rw [← HN.out]; exact hlt
      obtain ⟨ad, rfl, hadb, hcell⟩ := (H.out.grew (Nat.le_refl _) hG).byte_at hjl
      have HT := Lib.hid (bitsOf_take bs j hjl)
      have hx := getD_byte hb j
      have hbl : ((bitsOf (bs.take j)).map vbo).length ≤ 8 * j := by rw [List.length_map, bitsOf_length, List.length_take]; omega
      generalize bs.getD j 0 = x at *
      have HBt := Lib.hid (rbits_any x 8 wr (by omega) (by omega))
      have hbl2 : ((bitsOf (bs.take j)).map vbo).length + ((bin x 8).map vbo).length ≤ 1099511627776 := by
        have : ((bin x 8).map vbo).length = 8 := by rw [List.length_map, bin_length]
        omega
      go_wp2_with (first
        | (go_at_call 106; refine HBt.out.mono ?_; rintro e w4 ⟨v4, rfl, p1, p2⟩)
        | (at_builtin; refine app_any slBool rfl (.tmp 11) (.tmp 17) rfl rfl (hM.grew p2) rfl p1.rd (one_vbo _) hbl2 (Nat.le_trans hsz p2.size) ?_; intro A m cap w5 hm hM5 hk5 hr5))
      have hG5 := Grew.app (hG.trans p2) (hM.grew p2) hk5
      go_roundw
      case rel => exact ⟨j + 1, _, _, _, by omega, by go_num, rfl, by rw [HT.out, List.map_append]; exact hM5, hG5⟩
      case measure => simp [intOf]; omega
    · go_wp2_with fail
      go_ret
      exact ⟨_, rfl, by rw [List.take_of_length_le (by rw [← HN.out]; omega)] at hM; exact hM, hG⟩

theorem back_any (z : Nat) (w : World) (hz : z < 18446744073709551616) :
    Calls Tryd.prog 113 #[.int .u64 (z : Nat)] w fun e w' => e = .returned (.int .i64 (unzig z)) ∧ w = w' := by
  have hu : unzig z = if z % 2 = 1 then -((z / 2 : Nat) : Int) - 1 else ((z / 2 : Nat) : Int) := by
    unfold unzig
    have : z % 2 = 0 ∨ z % 2 = 1 := by omega
    rcases this with h | h <;> simp [h]
  by_cases h1 : z % 2 = 1
  · have ht : ((z : Int) % 2 == 1) = true := by rw [beq_iff_eq]; omega
    rw [if_pos h1] at hu
    have HU := Lib.hid hu
    clear hu h1
    go_enter Tryd.func113, Tryd.ntmps113
    go_wp2_with fail
    go_ret
    exact ⟨by rw [HU.out]; go_num, rfl⟩
  · have ht : ((z : Int) % 2 == 1) = false := by rw [beq_eq_false_iff_ne]; omega
    rw [if_neg h1] at hu
    have HU := Lib.hid hu
    clear hu h1
    go_enter Tryd.func113, Tryd.ntmps113
    go_wp2_with fail
    go_ret
    exact ⟨by rw [HU.out]; go_num, rfl⟩
end Go.Proofs.YtoojacpkbmgaeaaDoor
