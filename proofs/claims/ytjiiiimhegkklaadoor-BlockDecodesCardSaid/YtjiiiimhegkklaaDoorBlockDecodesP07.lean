/- The reference: Pack. The reference: Code. -/
import Derived.Test.YtjiiiimhegkklaaDoorBlockDecodesP06
import Derived.Deep.RegionHeld3
namespace Go.Proofs.YtjiiiimhegkklaaDoor
open Go.RowKit Pl

theorem Mine.cellAt {w : World} {base : Nat} {e : TypeId} {r n c : Nat} {xs : List Value} (h : Mine w base e (.slice (some ⟨r, 0, none⟩) n c) xs) {j : Nat} (hj : j < xs.length) : w.cell? ⟨r, j, none⟩ = some xs[j] := by
  rcases h.form with ⟨h, _⟩ | ⟨g, cap, cur, hv, _, hb, _, _, _, h4⟩
  · cases h
  · injection hv with hv _ _
    injection hv with hv
    injection hv with hv _ _
    subst hv
    rw [hb.cell, ← Array.getElem?_toList]
    have : (cur.toList.take xs.length)[j]? = some xs[j] := by rw [h4]; exact List.getElem?_eq_getElem hj
    rw [List.getElem?_take, if_pos hj] at this
    exact this
theorem Mine.frozenAt {w : World} {base : Nat} {e : TypeId} {r n c : Nat} {xs : List Value} (h : Mine w base e (.slice (some ⟨r, 0, none⟩) n c) xs) (j : Nat) : w.frozen? ⟨r, j, none⟩ = false := by
  rcases h.form with ⟨h, _⟩ | ⟨g, cap, cur, hv, _, hb, _⟩
  · cases h
  · injection hv with hv _ _
    injection hv with hv
    injection hv with hv _ _
    subst hv
    exact hb.frozen _
theorem Mine.len {w : World} {base : Nat} {e : TypeId} {A : Option Addr} {n c : Nat} {xs : List Value} (h : Mine w base e (.slice A n c) xs) : n = xs.length := by
  rcases h.form with ⟨h1, rfl⟩ | ⟨g, cap, cur, hv, _⟩
  · injection h1
  · injection hv
theorem Mine.some_ {w : World} {base : Nat} {e : TypeId} {A : Option Addr} {n c : Nat} {xs : List Value} (h : Mine w base e (.slice A n c) xs) (hx : 0 < xs.length) : ∃ r, A = some ⟨r, 0, none⟩ := by
  rcases h.form with ⟨_, rfl⟩ | ⟨g, cap, cur, hv, _⟩
  · simp at hx
  · injection hv with hv _ _
    exact ⟨g, hv⟩
theorem Grew.store {w0 w : World} {e : TypeId} {r n c : Nat} {xs : List Value} (h : Grew w0 w) (hm : Mine w w0.heap.size e (.slice (some ⟨r, 0, none⟩) n c) xs) (j : Nat) (u : Value) : Grew w0 (w.setCell ⟨r, j, none⟩ u) :=
  Keeps.setCell h (.inr (hm.lt r rfl).1) u

theorem Grew.cell_eq {w0 w w' : World} (h : Grew w0 w) (k : Grew w0 w') {a : Addr} {j : Nat} (ha : a.block < w0.heap.size) : w'.cell? (a.add j) = w.cell? (a.add j) := by
  have hb : (a.add j).block < w0.heap.size := by rw [block_add]; exact ha
  exact (World.cell?_of_block (k.block _ hb (fun e => e))).trans (World.cell?_of_block (h.block _ hb (fun e => e))).symm

theorem pow7 (j : Nat) : IntKind.u8.wrap (2 ^ (7 - j % 8) : Int) = ((2 ^ (7 - j % 8) : Nat) : Int) := by
  have : j % 8 = 0 ∨ j % 8 = 1 ∨ j % 8 = 2 ∨ j % 8 = 3 ∨ j % 8 = 4 ∨ j % 8 = 5 ∨ j % 8 = 6 ∨ j % 8 = 7 := by omega
  rcases this with h | h | h | h | h | h | h | h <;> rw [h] <;> rfl

set_option maxHeartbeats 1600000 in
set_option maxRecDepth 100000 in
theorem pack_any (v : Value) (s : List Bool) (w : World) (h : Rd w w.heap.size v (s.map vbo)) (hl : s.length ≤ 1000000000) :
    Calls Tryd.prog 71 #[v] w fun e w' => ∃ v', e = .returned v' ∧ Mine w' w.heap.size 5 v' ((pack s).map vb) ∧ Grew w w' := by
  obtain ⟨A, n, c, rfl, hn, hc⟩ := h.form
  rw [List.length_map] at hn
  have hnl : n ≤ 1000000000 := by omega
  have HN := Lib.hid hn
  clear hn
  go_enter Tryd.func71, Tryd.ntmps71
  go_wp2_with fail
  go_loopw [3, 4] (fun a i wr => ∃ (j m : Nat) (A : Option Addr) (c : Nat), j ≤ n ∧ i = .int .i64 j ∧ a = .slice A m c ∧ Mine wr w.heap.size 5 (.slice A m c) ((pack (s.take j)).map vb) ∧ Grew w wr) (fun _ i _ => n - (intOf i).toNat)
  case atStart => exact ⟨0, 0, none, 0, by omega, rfl, rfl, by simpa [pack] using Mine.nil w w.heap.size 5, Grew.refl _⟩
  case round =>
    obtain ⟨j, m, B, d, hj, rfl, rfl, hM, hG⟩ := hrel
    have hsz := hG.size
    by_cases hlt : j < n
    · have hjl : j < s.length := by rw [← HN.out]; exact hlt
      obtain ⟨ad, u, rfl, hadb, hu, hcell⟩ := (h.grew (Nat.le_refl _) hG).at_ (j := j) (by rw [List.length_map]; exact hjl)
      obtain rfl : vbo s[j] = u := by
        rw [List.getElem?_map, List.getElem?_eq_getElem hjl] at hu
        injection hu
      have htl : (s.take j).length = j := by rw [List.length_take]; omega
      have hpl : (pack (s.take j)).length = (j + 7) / 8 := by rw [pack_length, htl]
      have hsn : s.take (j + 1) = s.take j ++ [s[j]] := by rw [List.take_add_one, List.getElem?_eq_getElem hjl]; rfl
      have hml := hM.len
      rw [List.length_map] at hml
      have HML := Lib.hid hml
      have HPL := Lib.hid hpl
      have HSN := Lib.hid hsn
      have HTL := Lib.hid htl
      have H := Lib.hid h
      clear hu htl hpl hsn hml h
      unfold vbo at hcell
      generalize s[j] = b at *
      clear hjl
      by_cases h8 : j % 8 = 0
      · have t8 : ((j : Int) % 8 == 0) = true := by rw [beq_iff_eq]; omega
        have hpn := pack_snoc_new (s.take j) b (by rw [HTL.out]; exact h8)
        rw [← HSN.out] at hpn
        have HPN := Lib.hid hpn
        clear hpn
        have hm8 : (pack (s.take j)).length = j / 8 := by rw [HPL.out]; omega
        have HM8 := Lib.hid hm8
        have hbl : ((pack (s.take j)).map vb).length < 1099511627776 := by rw [List.length_map, hm8]; omega
        clear hm8
        cases b
        · go_wp2_with (at_builtin; refine app_one slU8 rfl (.tmp 14) (.tmp 15) rfl rfl (hM.alloc _) wr.heap.size 1 (.int .u8 0) rfl (Nat.le_refl _) (by simp) (by simp) rfl hbl (by simp; omega) ?k)
          case k =>
          intro r cap w1 hM1 hk1 hr hbr hlr
          have hG1 : Grew w w1 := (hG.alloc _).app (hM.alloc _) hk1
          have hcell1 := (hG.cell_eq hG1 (j := j) hadb).trans hcell
          have hM2 : ∀ q, Mine w1 w.heap.size 5 (.slice (some ⟨r, 0, none⟩) q cap) ((pack (s.take j)).map vb ++ [.int .u8 0]) → Mine w1 w.heap.size 5 (.slice (some ⟨r, 0, none⟩) q cap) ((pack (s.take (j + 1))).map vb) := by
            intro q hq
            rw [HPN.out, List.map_append]
            exact hq
          have HM2 := Lib.hid (hM2 _ hM1)
          clear hM1 hM2 hk1 hM hcell hbl
          go_wp2_with fail
          go_roundw
          case rel => exact ⟨j + 1, _, _, _, by omega, by go_num, rfl, HM2.out, hG1⟩
          case measure => simp [intOf]; omega
        · go_wp2_with (at_builtin; refine app_one slU8 rfl (.tmp 14) (.tmp 15) rfl rfl (hM.alloc _) wr.heap.size 1 (.int .u8 0) rfl (Nat.le_refl _) (by simp) (by simp) rfl hbl (by simp; omega) ?k)
          case k =>
          intro r cap w1 hM1 hk1 hr hbr hlr
          have hG1 : Grew w w1 := (hG.alloc _).app (hM.alloc _) hk1
          have hcell1 := (hG.cell_eq hG1 (j := j) hadb).trans hcell
          have hq := hM1.len
          have hcl : w1.cell? ⟨r, j / 8, none⟩ = some (.int .u8 0) := by
            have := hM1.cellAt (j := j / 8) (by rw [List.length_append, List.length_map, HM8.out]; simp)
            rw [this, List.getElem_append_right (by rw [List.length_map, HM8.out]; omega)]; simp
          have hfl := hM1.frozenAt (j / 8)
          have hMs := hM1.store (g := r) rfl (i := j / 8) (by rw [List.length_append, List.length_map, HM8.out]; simp) (.int .u8 128)
          have hset : (((pack (s.take j)).map vb ++ [Value.int .u8 0]).set (j / 8) (.int .u8 128)) = (pack (s.take (j + 1))).map vb := by
            rw [HPN.out, List.map_append, List.set_append_right _ _ (by rw [List.length_map, HM8.out]; omega), List.length_map, HM8.out]
            simp [vb, bitv]
          rw [hset] at hMs
          have HMS := Lib.hid hMs
          have HGS := Lib.hid (hG1.store hM1 (j / 8) (.int .u8 128))
          have hjb : j / 8 < (pack (s.take j)).length + 1 := by rw [HM8.out]; omega
          clear hM1 hk1 hM hcell hbl hMs hset hq
          go_wp2_with fail
          go_roundw
          case rel => exact ⟨j + 1, _, _, _, by omega, by go_num, rfl, HMS.out, HGS.out⟩
          case measure => simp [intOf]; omega
      · have t8 : ((j : Int) % 8 == 0) = false := by rw [beq_eq_false_iff_ne]; omega
        have hpn := pack_snoc_old (s.take j) b (by rw [HTL.out]; exact h8)
        rw [← HSN.out, HTL.out] at hpn
        have HPN := Lib.hid hpn
        clear hpn
        have hm8 : (pack (s.take j)).length = j / 8 + 1 := by rw [HPL.out]; omega
        obtain ⟨r, rfl⟩ := hM.some_ (by rw [List.length_map, hm8]; omega)
        have hmj : m = j / 8 + 1 := by rw [HML.out, hm8]
        have HMJ := Lib.hid hmj
        have hjb : j / 8 < m := by omega
        have HM8 := Lib.hid hm8
        have hcl : wr.cell? ⟨r, j / 8, none⟩ = some (.int .u8 (byteAt (s.take j) (j / 8) : Nat)) := by
          have := hM.cellAt (j := j / 8) (by rw [List.length_map, hm8]; omega)
          rw [this]
          congr 1
          simp [vb, pack]
        have hfl := hM.frozenAt (j / 8)
        have hbx := byteAt_lt (s.take j) (j / 8)
        clear hm8 hmj
        cases b
        · have hset : pack (s.take (j + 1)) = pack (s.take j) := by
            rw [HPN.out]
            apply List.ext_getElem?
            intro i
            rw [List.getElem?_set]
            split
            · rename_i e
              subst e
              rw [if_pos (by rw [HM8.out]; omega), pack_getElem? _ _ (by rw [HTL.out]; omega)]; simp [bitv]
            · rfl
          rw [← hset] at hM
          clear hset
          go_wp2_with fail
          go_roundw
          case rel => exact ⟨j + 1, _, _, _, by omega, by go_num, rfl, hM, hG⟩
          case measure => simp [intOf]; omega
        · have hMs := hM.store (g := r) rfl (i := j / 8) (by rw [List.length_map, HM8.out]; omega) (.int .u8 ((byteAt (s.take j) (j / 8) + bitv true (7 - j % 8) : Nat) : Int))
          have hset : (((pack (s.take j)).map vb).set (j / 8) (.int .u8 ((byteAt (s.take j) (j / 8) + bitv true (7 - j % 8) : Nat) : Int))) = (pack (s.take (j + 1))).map vb := by
            rw [HPN.out, List.map_set]; rfl
          rw [hset] at hMs
          have HMS := Lib.hid hMs
          have HGS := Lib.hid (hG.store hM (j / 8) (.int .u8 ((byteAt (s.take j) (j / 8) + bitv true (7 - j % 8) : Nat) : Int)))
          have hval : ((byteAt (s.take j) (j / 8) : Int) + 2 ^ (7 - j % 8)) % 256 = ((byteAt (s.take j) (j / 8) + bitv true (7 - j % 8) : Nat) : Int) := by
            have h1 := byteAt_snoc_same (s.take j) true
            rw [HTL.out] at h1
            have h2 := byteAt_lt (s.take j ++ [true]) (j / 8)
            rw [h1] at h2
            have h3 : bitv true (7 - j % 8) = 2 ^ (7 - j % 8) := by simp [bitv]
            rw [h3] at h2 ⊢
            rw [Int.natCast_add, Int.natCast_pow]
            rw [show ((2 : Nat) : Int) = 2 from rfl]
            have h4 : ((byteAt (s.take j) (j / 8) + 2 ^ (7 - j % 8) : Nat) : Int) = (byteAt (s.take j) (j / 8) : Int) + 2 ^ (7 - j % 8) := by
              rw [Int.natCast_add, Int.natCast_pow]; rfl
            rw [← h4]
            omega
          have HV := Lib.hid hval
          clear hset hMs hM hval
          go_wp2_with fail
          rw [HV.out]
          go_roundw
          case rel => exact ⟨j + 1, _, _, _, by omega, by go_num, rfl, HMS.out, HGS.out⟩
          case measure => simp [intOf]; omega
    · go_wp2_with fail
      go_ret
      exact ⟨_, rfl, by rw [List.take_of_length_le (by rw [← HN.out]; omega)] at hM; exact hM, hG⟩
end Go.Proofs.YtjiiiimhegkklaaDoor
namespace Go.Proofs.YtjiiiimhegkklaaDoor
open Go.RowKit Pl

set_option maxHeartbeats 3200000 in
set_option maxRecDepth 100000 in
theorem rcode_any (n : Int) (w : World) (hn : I64 n) :
    Calls Tryd.prog 69 #[.int .i64 n] w fun e w' => ∃ v', e = .returned v' ∧ Mine w' w.heap.size 4 v' ((code n).map vbo) ∧ Grew w w' := by
  have hz := zig_lt hn
  have hil := idx_le (zig n)
  have HZg := Lib.hid (zigzag_any n w hn)
  unfold code
  generalize zig n = z at *
  have hj5 : ∀ j, j ≤ 5 → (z < 2 ^ width j ↔ idx z ≤ j) := by
    intro j hj
    have : j = 0 ∨ j = 1 ∨ j = 2 ∨ j = 3 ∨ j = 4 ∨ j = 5 := by omega
    rcases this with rfl | rfl | rfl | rfl | rfl | rfl <;> simp [width] <;> unfold idx <;> (repeat' split) <;> omega
  have HJ := Lib.hid hj5
  have HZ := Lib.hid hz
  clear hj5 hz
  have hbox := Box.new w 3 #[.int .i64 0, .int .i64 4, .int .i64 8, .int .i64 16, .int .i64 32, .int .i64 64]
  have hwid : ∀ j, j < 6 → (#[Value.int .i64 0, .int .i64 4, .int .i64 8, .int .i64 16, .int .i64 32, .int .i64 64] : Array Value)[j]? = some (.int .i64 (width j : Nat)) := by
    intro j hj
    have : j = 0 ∨ j = 1 ∨ j = 2 ∨ j = 3 ∨ j = 4 ∨ j = 5 := by omega
    rcases this with rfl | rfl | rfl | rfl | rfl | rfl <;> rfl
  have HWD := Lib.hid hwid
  clear hwid
  go_enter Tryd.func69, Tryd.ntmps69
  go_wp2_with (go_at_call 104; refine HZg.out.mono ?_; rintro e w' ⟨rfl, rfl⟩)
  have hG1 : Grew w (w.alloc (.cells #[.int .i64 0, .int .i64 4, .int .i64 8, .int .i64 16, .int .i64 32, .int .i64 64] 3)) := (Grew.refl w).alloc _
  have hs1 : w.heap.size < (w.alloc (.cells #[.int .i64 0, .int .i64 4, .int .i64 8, .int .i64 16, .int .i64 32, .int .i64 64] 3)).heap.size := by simp
  generalize w.alloc (.cells #[.int .i64 0, .int .i64 4, .int .i64 8, .int .i64 16, .int .i64 32, .int .i64 64] 3) = w1 at *
  go_loop [5] (fun i => ∃ j : Nat, j ≤ idx z ∧ j ≤ 5 ∧ i = .int .i64 j) (fun i => 5 - (intOf i).toNat)
  case atStart => exact ⟨0, by omega, by omega, rfl⟩
  case round =>
    obtain ⟨j, hj, hj5, rfl⟩ := hrel
    have hc : w1.cell? ⟨w.heap.size, j, none⟩ = some (.int .i64 (width j : Nat)) := (hbox.cell j).trans (HWD.out j (by omega))
    have hw64 := width_le j
    by_cases h5 : j < 5
    · have hw32 : width j ≤ 32 := by
        have : j = 0 ∨ j = 1 ∨ j = 2 ∨ j = 3 ∨ j = 4 := by omega
        rcases this with rfl | rfl | rfl | rfl | rfl <;> simp [width]
      have hwr : IntKind.u64.wrap (2 ^ width j : Int) = ((2 ^ width j : Nat) : Int) := by
        have : j = 0 ∨ j = 1 ∨ j = 2 ∨ j = 3 ∨ j = 4 := by omega
        rcases this with rfl | rfl | rfl | rfl | rfl <;> rfl
      by_cases hlt : j < idx z
      · have ht : decide ((z : Int) < IntKind.u64.wrap (2 ^ width j : Int)) = false := by
          rw [hwr, decide_eq_false_iff_not]
          have h1 : ¬ z < 2 ^ width j := by rw [HJ.out j (by omega)]; omega
          generalize 2 ^ width j = q at *
          omega
        clear hwr
        go_wp2_with fail
        go_round
        case rel => exact ⟨j + 1, by omega, by omega, by go_num⟩
        case measure => simp [intOf]; omega
      · obtain rfl : j = idx z := by omega
        have ht : decide ((z : Int) < IntKind.u64.wrap (2 ^ width (idx z) : Int)) = true := by
          rw [hwr, decide_eq_true_eq]
          have h1 : z < 2 ^ width (idx z) := by rw [HJ.out _ (by omega)]; omega
          generalize 2 ^ width (idx z) = q at *
          omega
        clear hwr
        go_wp2_with fail
        have hi0 : (0 : Int) ≤ (idx z : Int) := by omega
        have hi6 : (idx z : Int) < (6 : Int) := by omega
        go_region_held3 (fun w' => w'.cell? ⟨w.heap.size, idx z, none⟩ = some (.int .i64 (width (idx z) : Nat)))
          (first | assumption | go_keep | exact cW2 | exact cW3 | exact cW4)
          (first
            | (go_at_call 105; refine (runary_any _ _ (by omega)).mono ?_; rintro e w2 ⟨v2, rfl, k1, k2⟩; have cW2 := ((Box.grew (w := w1.drew) hbox k2).cell (idx z)).trans (HWD.out (idx z) (by omega)))
            | (go_at_call 106; refine (rbits_any _ _ _ HZ.out hw64).mono ?_; rintro e w3 ⟨v3, rfl, m1, m2⟩; have cW3 := (((Box.grew (w := w1.drew) hbox k2).grew m2).cell (idx z)).trans (HWD.out (idx z) (by omega)))
            | (refine step_app slBool rfl _ _ rfl rfl (k1.grew m2) rfl m1.rd (one_vbo _) (by simp [un, bin_length]; omega) (Nat.le_trans k2.size m2.size) ?_; intro A m cap w4 hm hM4 hk4 hr4; have cW4 := ((((Box.grew (w := w1.drew) hbox k2).grew m2).keep hk4 (fun e => by have h7 := (k1.lt _ e).1; have h8 : w1.heap.size ≤ w.heap.size := h7; omega)).cell (idx z)).trans (HWD.out (idx z) (by omega))))
        go_wp2_with fail
        go_ret
        refine ⟨_, rfl, by rw [List.map_append]; exact hM4.base_le (Nat.le_of_lt hs1), ?_⟩
        exact Grew.app ((hG1.drew.trans k2).trans m2) ((k1.grew m2).base_le (Nat.le_of_lt hs1)) hk4
    · obtain rfl : j = 5 := by omega
      have hi5 : idx z = 5 := by omega
      have HI5 := Lib.hid hi5
      clear hi5
      go_wp2_with (first
        | (go_at_call 105; refine (runary_any 5 _ (by omega)).mono ?_; rintro e w2 ⟨v2, rfl, k1, k2⟩)
        | (go_at_call 106; refine (rbits_any _ 64 _ HZ.out (by omega)).mono ?_; rintro e w3 ⟨v3, rfl, m1, m2⟩)
        | (at_builtin; refine app_any slBool rfl (.tmp 30) (.tmp 32) rfl rfl (k1.grew m2) rfl m1.rd (one_vbo _) (by simp [un, bin_length]) (Nat.le_trans k2.size m2.size) ?_; intro A m cap w4 hm hM4 hk4 hr4))
      go_ret
      refine ⟨_, rfl, by rw [List.map_append, HI5.out]; exact hM4.base_le (Nat.le_of_lt hs1), ?_⟩
      exact Grew.app ((hG1.trans k2).trans m2) ((k1.grew m2).base_le (Nat.le_of_lt hs1)) hk4
end Go.Proofs.YtjiiiimhegkklaaDoor
