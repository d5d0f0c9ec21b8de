/- The reference's reader: Unpack, Unary, Bits, Back. The reference's reader: Unary, Bits. The reference's reader: Bits. -/
import Derived.Test.YtjiiiimhegkklaaDoorBlockDecodesP10
namespace Go.Proofs.YtjiiiimhegkklaaDoor
open Go.RowKit Pl

theorem bitsOf_snoc (l : List Nat) (x : Nat) : bitsOf (l ++ [x]) = bitsOf l ++ bin x 8 := by
  apply List.ext_getElem?
  intro k
  unfold bitsOf
  rw [List.getElem?_map, List.length_append, List.length_singleton]
  by_cases hk : k < 8 * l.length
  · rw [List.getElem?_append_left (by simp; exact hk), List.getElem?_map, List.getElem?_range hk, List.getElem?_range (by omega)]
    simp only [Option.map_some]
    unfold bitAt
    rw [List.getD_eq_getElem?_getD, List.getD_eq_getElem?_getD, List.getElem?_append_left (by omega)]
  · rw [List.getElem?_append_right (by simp; omega)]
    by_cases hk2 : k < 8 * (l.length + 1)
    · rw [List.getElem?_range hk2]
      unfold bin
      rw [List.getElem?_map, List.length_map, List.length_range, List.getElem?_range (by omega)]
      simp only [Option.map_some]
      unfold bitAt
      have e1 : k / 8 = l.length := by omega
      have e2 : k % 8 = k - 8 * l.length := by omega
      rw [e1, e2, List.getD_eq_getElem?_getD, List.getElem?_append_right (Nat.le_refl _), Nat.sub_self]
      rfl
    · rw [List.getElem?_eq_none (by simp; omega), List.getElem?_eq_none (by rw [bin_length]; simp; omega)]; rfl
theorem bitsOf_take (l : List Nat) (j : Nat) (hj : j < l.length) : bitsOf (l.take (j + 1)) = bitsOf (l.take j) ++ bin (l.getD j 0) 8 := by
  rw [List.take_add_one, List.getElem?_eq_getElem hj, Option.toList_some, bitsOf_snoc, List.getD_eq_getElem?_getD, List.getElem?_eq_getElem hj]; rfl
theorem Rd.byte_at {w : World} {B : Nat} {A : Option Addr} {n c j : Nat} {l : List Nat} (h : Rd w B (.slice A n c) (l.map vb)) (hj : j < l.length) : ∃ ad, A = some ad ∧ ad.block < B ∧ w.cell? (ad.add j) = some (.int .u8 (l.getD j 0 : Nat)) := by
  obtain ⟨ad, u, rfl, hadb, hu, hcell⟩ := h.at_ (j := j) (by rw [List.length_map]; exact hj)
  refine ⟨ad, rfl, hadb, ?_⟩
  rw [List.getElem?_map, List.getElem?_eq_getElem hj] at hu
  rw [hcell, ← Option.some.inj hu, List.getD_eq_getElem?_getD, List.getElem?_eq_getElem hj]; rfl
theorem getD_byte {l : List Nat} (hi : Bytes l) (j : Nat) : l.getD j 0 < 256 := by
  rw [List.getD_eq_getElem?_getD]
  by_cases hj : j < l.length
  · rw [List.getElem?_eq_getElem hj]; exact hi _ (List.getElem_mem hj)
  · rw [List.getElem?_eq_none (by omega)]; decide

set_option maxHeartbeats 1600000 in
set_option maxRecDepth 100000 in
theorem unpack_any (v : Value) (bs : List Nat) (w : World) (h : Rd w w.heap.size v (bs.map vb)) (hb : Bytes bs) (hs : bs.length ≤ 100000000) :
    Calls Tryd.prog 75 #[v] w fun e w' => ∃ v', e = .returned v' ∧ Mine w' w.heap.size 4 v' ((bitsOf bs).map vbo) ∧ Grew w w' := by
  obtain ⟨A, n, c, rfl, hn, hc⟩ := h.form
  rw [List.length_map] at hn
  have hnl : n ≤ 100000000 := by omega
  have HN := Lib.hid hn
  have H := Lib.hid h
  clear hn h
  go_enter Tryd.func75, Tryd.ntmps75
  go_wp2_with fail
  go_loopw [3, 4] (fun a i wr => ∃ (j m : Nat) (A : Option Addr) (c : Nat), j ≤ n ∧ i = .int .i64 j ∧ a = .slice A m c ∧ Mine wr w.heap.size 4 (.slice A m c) ((bitsOf (bs.take j)).map vbo) ∧ Grew w wr) (fun _ i _ => n - (intOf i).toNat)
  case atStart => exact ⟨0, 0, none, 0, by omega, rfl, rfl, by simpa [bitsOf] using Mine.nil w w.heap.size 4, Grew.refl _⟩
  case round =>
    obtain ⟨j, m, B, d, hj, rfl, rfl, hM, hG⟩ := hrel
    have hsz := hG.size
    by_cases hlt : j < n
    · have hjl : j < bs.length := by rw [← HN.out]; exact hlt
      obtain ⟨ad, rfl, hadb, hcell⟩ := (H.out.grew (Nat.le_refl _) hG).byte_at hjl
      have HT := Lib.hid (bitsOf_take bs j hjl)
      have hx := getD_byte hb j
      have hbl : ((bitsOf (bs.take j)).map vbo).length ≤ 8 * j := by rw [List.length_map, bitsOf_length, List.length_take]; omega
      generalize bs.getD j 0 = x at *
      have HBt := Lib.hid (rbits_any x 8 wr (by omega) (by omega))
      have hbl2 : ((bitsOf (bs.take j)).map vbo).length + ((bin x 8).map vbo).length ≤ 1099511627776 := by
        have : ((bin x 8).map vbo).length = 8 := by rw [List.length_map, bin_length]
        omega
      go_wp2_with (first
        | (go_at_call 106; refine HBt.out.mono ?_; rintro e w4 ⟨v4, rfl, p1, p2⟩)
        | (at_builtin; refine app_any slBool rfl (.tmp 11) (.tmp 17) rfl rfl (hM.grew p2) rfl p1.rd (one_vbo _) hbl2 (Nat.le_trans hsz p2.size) ?_; intro A m cap w5 hm hM5 hk5 hr5))
      have hG5 := Grew.app (hG.trans p2) (hM.grew p2) hk5
      go_roundw
      case rel => exact ⟨j + 1, _, _, _, by omega, by go_num, rfl, by rw [HT.out, List.map_append]; exact hM5, hG5⟩
      case measure => simp [intOf]; omega
    · go_wp2_with fail
      go_ret
      exact ⟨_, rfl, by rw [List.take_of_length_le (by rw [← HN.out]; omega)] at hM; exact hM, hG⟩

theorem back_any (z : Nat) (w : World) (hz : z < 18446744073709551616) :
    Calls Tryd.prog 113 #[.int .u64 (z : Nat)] w fun e w' => e = .returned (.int .i64 (unzig z)) ∧ w = w' := by
  have hu : unzig z = if z % 2 = 1 then -((z / 2 : Nat) : Int) - 1 else ((z / 2 : Nat) : Int) := by
    unfold unzig
    have : z % 2 = 0 ∨ z % 2 = 1 := by omega
    rcases this with h | h <;> simp [h]
  by_cases h1 : z % 2 = 1
  · have ht : ((z : Int) % 2 == 1) = true := by rw [beq_iff_eq]; omega
    rw [if_pos h1] at hu
    have HU := Lib.hid hu
    clear hu h1
    go_enter Tryd.func113, Tryd.ntmps113
    go_wp2_with fail
    go_ret
    exact ⟨by rw [HU.out]; go_num, rfl⟩
  · have ht : ((z : Int) % 2 == 1) = false := by rw [beq_eq_false_iff_ne]; omega
    rw [if_neg h1] at hu
    have HU := Lib.hid hu
    clear hu h1
    go_enter Tryd.func113, Tryd.ntmps113
    go_wp2_with fail
    go_ret
    exact ⟨by rw [HU.out]; go_num, rfl⟩
end Go.Proofs.YtjiiiimhegkklaaDoor
namespace Go.Proofs.YtjiiiimhegkklaaDoor
open Go.RowKit Pl

/- the reference's reader in block g: the bits s, so many read, the error -/
structure RR (w : World) (base g : Nat) (v : Value) (s : List Bool) (at_ : Nat) (er : Int) : Prop where
  box : Box w g 119 #[v, .int .i64 (at_ : Nat), .int .i64 er]
  row : Mine w base 4 v (s.map vbo)
  small : s.length ≤ 1000000000
  here : at_ ≤ s.length
theorem RR.drewN {w : World} {base g : Nat} {v : Value} {s : List Bool} {a : Nat} {er : Int} (h : RR w base g v s a er) (n : Nat) : RR (w.drewN n) base g v s a er := ⟨h.box, h.row, h.small, h.here⟩
theorem RR.form {w : World} {base g : Nat} {v : Value} {s : List Bool} {a : Nat} {er : Int} (h : RR w base g v s a er) : ∃ A n c, v = .slice A n c ∧ n = s.length := by
  obtain ⟨A, n, c, rfl, hn⟩ := h.row.slice
  exact ⟨A, n, c, rfl, by simpa using hn⟩
theorem RR.setAt {w : World} {base g : Nat} {v : Value} {s : List Bool} {a : Nat} {er : Int} (h : RR w base g v s a er) (b : Nat) (hb : b ≤ s.length) : RR (w.setCell ⟨g, 1, none⟩ (.int .i64 (b : Nat))) base g v s b er :=
  ⟨by simpa using h.box.set_ 1 (.int .i64 (b : Nat)), h.row.far (fun e => h.row.ne_box e h.box (by decide) rfl) _, h.small, hb⟩
theorem RR.setErr {w : World} {base g : Nat} {v : Value} {s : List Bool} {a : Nat} {er : Int} (h : RR w base g v s a er) (x : Int) : RR (w.setCell ⟨g, 2, none⟩ (.int .i64 x)) base g v s a x :=
  ⟨by simpa using h.box.set_ 2 (.int .i64 x), h.row.far (fun e => h.row.ne_box e h.box (by decide) rfl) _, h.small, h.here⟩
theorem RR.alloc {w : World} {base g : Nat} {v : Value} {s : List Bool} {a : Nat} {er : Int} (h : RR w base g v s a er) (o : Obj) : RR (w.alloc o) base g v s a er :=
  ⟨h.box.alloc o, h.row.alloc o, h.small, h.here⟩
theorem RR.grew {w w' : World} {base g : Nat} {v : Value} {s : List Bool} {a : Nat} {er : Int} (h : RR w base g v s a er) (hk : Grew w w') : RR w' base g v s a er :=
  ⟨h.box.grew hk, h.row.grew hk, h.small, h.here⟩
/- the cell of a bit -/
theorem RR.bit {w : World} {base g : Nat} {A : Option Addr} {n c : Nat} {s : List Bool} {a : Nat} {er : Int} (h : RR w base g (.slice A n c) s a er) {k : Nat} (hk : k < s.length) : ∃ r, A = some ⟨r, 0, none⟩ ∧ w.cell? ⟨r, k, none⟩ = some (.bool s[k]) := by
  obtain ⟨r, rfl⟩ := h.row.some_ (by rw [List.length_map]; omega)
  refine ⟨r, rfl, ?_⟩
  have := h.row.cellAt (j := k) (by rw [List.length_map]; exact hk)
  rw [List.getElem_map] at this
  exact this

/- what Unary does -/
def RUPost (base g : Nat) (v : Value) (s : List Bool) (a : Nat) (w : World) (o : Option (Nat × List Bool)) (e : Ending) (w' : World) : Prop :=
  KeepsR g w w' ∧
  match o with
  | some (i, _) => e = .returned (.int .i64 (i : Nat)) ∧ RR w' base g v s (a + i + 1) 0
  | none => e = .returned (.int .i64 0) ∧ ∃ er, (er = 3 ∨ er = 4) ∧ RR w' base g v s a er

set_option maxHeartbeats 6400000 in
set_option maxRecDepth 100000 in
theorem rdunary_any (g base : Nat) (v : Value) (s : List Bool) (a most : Nat) (w : World) (h : RR w base g v s a 0) (hm1 : 1 ≤ most) (hm : most ≤ 64) :
    Calls Tryd.prog 112 #[.pointer (some ⟨g, 0, none⟩), .int .i64 (most : Nat)] w (RUPost base g v s a w (ones most (s.drop a))) := by
  have hsm := h.small
  have hhe := h.here
  obtain ⟨A, n, c, rfl, hn⟩ := h.form
  have HN := Lib.hid hn
  have hsn : n ≤ 1000000000 := by omega
  clear hn
  have hmax : ¬ ((most : Int) < 0) := by omega
  have hmx : ¬ ((0 : Int) < (most : Int)) → most = 0 := by omega
  have HMX := Lib.hid hmx
  clear hmx
  go_enter Tryd.func112, Tryd.ntmps112
  go_wp2_with fail
  go_loopw [5] (fun i wr => ∃ (j : Nat) (er : Int), j ≤ most + 1 ∧ i = .int .i64 j ∧ RR wr base g (.slice A n c) s a er ∧ KeepsR g w wr ∧ ((er = 0 ∧ a + j ≤ n ∧ Ones most (s.drop a) j (s.drop (a + j))) ∨ (er = 4 ∧ ones most (s.drop a) = none))) (fun i _ => most + 2 - (intOf i).toNat)
  case atStart => exact ⟨0, 0, by omega, rfl, h, KeepsR.refl _ _, .inl ⟨rfl, by rw [HN.out]; omega, Ones.start _ _⟩⟩
  case round =>
    clear h
    obtain ⟨j, er, hj, rfl, hW, hK, hO⟩ := hrel
    have c0 := hW.box.cell 0
    have c1 := hW.box.cell 1
    have c2 := hW.box.cell 2
    have f1 := hW.box.frozen 1
    have f2 := hW.box.frozen 2
    simp only [List.getElem?_toArray, List.getElem?_cons_zero, List.getElem?_cons_succ] at c0 c1 c2
    rcases hO with ⟨rfl, hjn, hO⟩ | ⟨rfl, hO⟩
    · have hjm := hO.1
      have HO := Lib.hid hO
      clear hO
      have hwr : IntKind.i64.wrap ((a : Int) + (j : Int)) = (a : Int) + (j : Int) := IntWalk.i64_in _ (by omega)
      have htn : ((a : Int) + (j : Int)).toNat = a + j := by omega
      have hp0 : (0 : Int) ≤ (a : Int) + (j : Int) := by omega
      by_cases hlt : a + j < n
      · have hltI : (a : Int) + (j : Int) < (n : Int) := by omega
        have hd1 : decide ((n : Int) ≤ (a : Int) + (j : Int)) = false := by rw [decide_eq_false_iff_not]; omega
        have hd2 : decide (n ≤ a + j) = false := by rw [decide_eq_false_iff_not]; omega
        have hls : a + j < s.length := by rw [← HN.out]; exact hlt
        obtain ⟨r, rfl, hcb⟩ := hW.bit hls
        have hdr : s.drop (a + j) = s[a + j] :: s.drop (a + j + 1) := List.drop_eq_getElem_cons hls
        have HDR := Lib.hid hdr
        clear hdr
        cases hb : s[a + j] with
        | false =>
          have hres : ones most (s.drop a) = some (j, s.drop (a + j + 1)) := by
            have := HO.out
            rw [HDR.out, hb] at this
            exact this.stop
          have HR := Lib.hid hres
          rw [hb] at hcb
          clear hres hb
          go_wp2_with fail
          go_quiet (fail)
          go_wp2_with fail
          go_quiet (fail)
          go_wp2_with fail
          go_ret
          rw [HR.out]
          have hv : (a : Int) + (j : Int) + 1 = ((a + j + 1 : Nat) : Int) := by omega
          rw [hv]
          exact ⟨(hK.drewN _).trans (KeepsR.set g _ 1 _), rfl, (hW.drewN _).setAt (a + j + 1) (by omega)⟩
        | true =>
          have HB := Lib.hid hb
          rw [hb] at hcb
          clear hb
          by_cases hjm2 : j < most
          · have hm0 : (0 : Int) < (most : Int) := by omega
            have hge : ¬ ((most : Int) ≤ (j : Int)) := by omega
            go_wp2_with fail
            go_quiet (fail)
            go_wp2_with fail
            go_quiet (fail)
            go_wp2_with fail
            go_roundw
            case rel =>
              refine ⟨j + 1, 0, by omega, by go_num, hW.drewN _, hK.drewN _, .inl ⟨rfl, by omega, ?_⟩⟩
              have := HO.out
              rw [HDR.out, HB.out] at this
              exact this.more hjm2
            case measure => simp [intOf]; omega
          · obtain rfl : j = most := by omega
            have hres : ones j (s.drop a) = none := by
              have := HO.out
              rw [HDR.out, HB.out] at this
              exact this.full
            have HR := Lib.hid hres
            clear hres
            have hm0 : (0 : Int) < (j : Int) := by omega
            go_wp2_with fail
            go_quiet (fail)
            go_wp2_with fail
            go_quiet (fail)
            go_wp2_with fail
            go_roundw
            case rel => exact ⟨j + 1, 4, by omega, by go_num, (hW.drewN _).setErr 4, (hK.drewN _).trans (KeepsR.set g _ 2 _), .inr ⟨rfl, HR.out⟩⟩
            case measure => simp [intOf]
      · have hd1 : decide ((n : Int) ≤ (a : Int) + (j : Int)) = true := by rw [decide_eq_true_eq]; omega
        have hd2 : decide (n ≤ a + j) = true := by rw [decide_eq_true_eq]; omega
        have hres : ones most (s.drop a) = none := by
          have := HO.out
          rw [List.drop_of_length_le (i := a + j) (by rw [← HN.out]; omega)] at this
          exact this.nil
        have HR := Lib.hid hres
        clear hres
        go_wp2_with fail
        go_quiet (fail)
        go_wp2_with fail
        go_ret
        rw [HR.out]
        exact ⟨(hK.drewN _).trans (KeepsR.set g _ 2 _), rfl, 3, .inl rfl, (hW.drewN _).setErr 3⟩
    · have HR := Lib.hid hO
      clear hO
      go_wp2_with fail
      go_ret
      rw [HR.out]
      exact ⟨hK, rfl, 4, .inr rfl, hW⟩
end Go.Proofs.YtjiiiimhegkklaaDoor
namespace Go.Proofs.YtjiiiimhegkklaaDoor
open Go.RowKit Pl

set_option maxHeartbeats 6400000 in
set_option maxRecDepth 100000 in
theorem rrbits_ok (g base : Nat) (v : Value) (s : List Bool) (a k : Nat) (w : World) (h : RR w base g v s a 0) (hk : k ≤ 64) (hs : a + k ≤ s.length) :
    Calls Tryd.prog 114 #[.pointer (some ⟨g, 0, none⟩), .int .i64 (k : Nat)] w fun e w' => e = .returned (.int .u64 (val ((s.drop a).take k) : Nat)) ∧ KeepsR g w w' ∧ RR w' base g v s (a + k) 0 := by
  have hsm := h.small
  obtain ⟨A, n, c, rfl, hn⟩ := h.form
  have HN := Lib.hid hn
  have hsn : n ≤ 1000000000 := by omega
  have han : a + k ≤ n := by omega
  have HC := Lib.hid (count_any k hk w)
  have c0 := h.box.cell 0
  have c1 := h.box.cell 1
  have c2 := h.box.cell 2
  simp only [List.getElem?_toArray, List.getElem?_cons_zero, List.getElem?_cons_succ] at c0 c1 c2
  have hwr : IntKind.i64.wrap ((n : Int) - (a : Int)) = (n : Int) - (a : Int) := IntWalk.i64_in _ (by omega)
  have hd1 : decide ((n : Int) - (a : Int) < (k : Int)) = false := by rw [decide_eq_false_iff_not]; omega
  clear hn
  go_enter Tryd.func114, Tryd.ntmps114
  go_wp2_with (go_at_call 127; refine HC.out.mono ?_; rintro e w' ⟨rfl, rfl⟩)
  go_quiet (fail)
  go_wp2_with fail
  go_loopw [6, 7] (fun x i wr => ∃ (j : Nat), j ≤ k ∧ i = .int .i64 j ∧ x = .int .u64 (val ((s.drop a).take j) : Nat) ∧ RR wr base g (.slice A n c) s (a + j) 0 ∧ KeepsR g w wr) (fun _ i _ => k - (intOf i).toNat)
  case atStart => exact ⟨0, by omega, rfl, by simp [val], h.drewN _, (KeepsR.refl _ _).drewN _⟩
  case round =>
    clear c0 c1 c2 hwr hd1 h
    obtain ⟨j, hj, rfl, rfl, hW, hK⟩ := hrel
    have c0 := hW.box.cell 0
    have c1 := hW.box.cell 1
    have c2 := hW.box.cell 2
    have f1 := hW.box.frozen 1
    simp only [List.getElem?_toArray, List.getElem?_cons_zero, List.getElem?_cons_succ] at c0 c1 c2
    have hvl : val ((s.drop a).take j) < 2 ^ j := by
      have h1 := val_lt ((s.drop a).take j)
      have h2 : ((s.drop a).take j).length ≤ j := List.length_take_le _ _
      exact Nat.lt_of_lt_of_le h1 (Nat.pow_le_pow_right (by omega) h2)
    by_cases hlt : j < k
    · have hls : a + j < s.length := by omega
      obtain ⟨r, rfl, hcb⟩ := hW.bit hls
      have htk : (s.drop a).take (j + 1) = (s.drop a).take j ++ [s[a + j]] := by
        rw [List.take_add_one, List.getElem?_drop, List.getElem?_eq_getElem hls]; rfl
      have hvs : val ((s.drop a).take (j + 1)) = 2 * val ((s.drop a).take j) + s[a + j].toNat := by rw [htk, val_snoc]
      have HVS := Lib.hid hvs
      have hv63 : val ((s.drop a).take j) < 9223372036854775808 := by
        have : 2 ^ j ≤ 2 ^ 63 := Nat.pow_le_pow_right (by omega) (by omega)
        have e63 : (2 : Nat) ^ 63 = 9223372036854775808 := by decide
        omega
      have ht1 : decide ((j : Int) < (k : Int)) = true := by rw [decide_eq_true_eq]; omega
      have hjn : a + j < n := by omega
      have hjI : (a : Int) + (j : Int) < (n : Int) := by omega
      have htn : ((a : Int) + (j : Int)).toNat = a + j := by omega
      have hp0 : (0 : Int) ≤ (a : Int) + (j : Int) := by omega
      clear hvs htk hvl
      generalize val ((s.drop a).take j) = q at *
      cases hb : s[a + j] with
      | false =>
        rw [hb] at hcb
        have HB := Lib.hid hb
        clear hb
        go_wp2_with fail
        go_quiet (fail)
        go_wp2_with fail
        go_roundw
        case rel =>
          have ec : (a : Int) + (j : Int) + 1 = ((a + (j + 1) : Nat) : Int) := by omega
          rw [ec]
          exact ⟨j + 1, by omega, by go_num, by rw [HVS.out, HB.out]; go_num, (hW.drewN _).setAt _ (by omega), (hK.drewN _).trans (KeepsR.set g _ 1 _)⟩
        case measure => simp [intOf]; omega
      | true =>
        rw [hb] at hcb
        have HB := Lib.hid hb
        clear hb
        go_wp2_with fail
        go_quiet (fail)
        go_wp2_with fail
        go_roundw
        case rel =>
          have ec : (a : Int) + (j : Int) + 1 = ((a + (j + 1) : Nat) : Int) := by omega
          rw [ec]
          exact ⟨j + 1, by omega, by go_num, by rw [HVS.out, HB.out]; go_num, (hW.drewN _).setAt _ (by omega), (hK.drewN _).trans (KeepsR.set g _ 1 _)⟩
        case measure => simp [intOf]; omega
    · obtain rfl : j = k := by omega
      have ht1 : decide ((j : Int) < (j : Int)) = false := by simp
      go_wp2_with fail
      go_ret
      exact ⟨rfl, hK, hW⟩

set_option maxHeartbeats 3200000 in
set_option maxRecDepth 100000 in
theorem rrbits_short (g base : Nat) (v : Value) (s : List Bool) (a k : Nat) (w : World) (h : RR w base g v s a 0) (hk : k ≤ 64) (hs : s.length < a + k) :
    Calls Tryd.prog 114 #[.pointer (some ⟨g, 0, none⟩), .int .i64 (k : Nat)] w fun e w' => e = .returned (.int .u64 0) ∧ KeepsR g w w' ∧ RR w' base g v s a 3 := by
  have hsm := h.small
  have hhe := h.here
  obtain ⟨A, n, c, rfl, hn⟩ := h.form
  have hsn : n ≤ 1000000000 := by omega
  have hka : 1 ≤ k := by omega
  have HC := Lib.hid (count_any k hk w)
  have c0 := h.box.cell 0
  have c1 := h.box.cell 1
  have c2 := h.box.cell 2
  have f2 := h.box.frozen 2
  simp only [List.getElem?_toArray, List.getElem?_cons_zero, List.getElem?_cons_succ] at c0 c1 c2
  have hwr : IntKind.i64.wrap ((n : Int) - (a : Int)) = (n : Int) - (a : Int) := IntWalk.i64_in _ (by omega)
  have hd1 : decide ((n : Int) - (a : Int) < (k : Int)) = true := by rw [decide_eq_true_eq]; omega
  have ht1 : decide ((0 : Int) < (k : Int)) = true := by rw [decide_eq_true_eq]; omega
  clear hn
  go_enter Tryd.func114, Tryd.ntmps114
  go_wp2_with (go_at_call 127; refine HC.out.mono ?_; rintro e w' ⟨rfl, rfl⟩)
  go_quiet (fail)
  go_wp2_with fail
  refine wp_loop_rounds 1 ?_
  rw [rounds_succ]
  go_wp2_with fail
  go_ret
  exact ⟨rfl, ((KeepsR.refl _ _).drewN _).trans (KeepsR.set g _ 2 _), (h.drewN _).setErr 3⟩

set_option maxHeartbeats 3200000 in
set_option maxRecDepth 100000 in
theorem rrbits_err (g base : Nat) (v : Value) (s : List Bool) (a : Nat) (er : Int) (w : World) (h : RR w base g v s a er) (he : er = 3 ∨ er = 4) :
    Calls Tryd.prog 114 #[.pointer (some ⟨g, 0, none⟩), .int .i64 0] w fun e w' => e = .returned (.int .u64 0) ∧ KeepsR g w w' ∧ RR w' base g v s a er := by
  have HC := Lib.hid (count_any 0 (by omega) w)
  have c2 := h.box.cell 2
  simp only [List.getElem?_toArray, List.getElem?_cons_zero, List.getElem?_cons_succ] at c2
  have hde : (er == 0) = false := by rcases he with rfl | rfl <;> rfl
  clear he
  go_enter Tryd.func114, Tryd.ntmps114
  go_wp2_with (go_at_call 127; refine HC.out.mono ?_; rintro e w' ⟨rfl, rfl⟩)
  go_quiet (fail)
  go_wp2_with fail
  refine wp_loop_rounds 1 ?_
  rw [rounds_succ]
  go_wp2_with fail
  go_ret
  exact ⟨rfl, (KeepsR.refl _ _).drewN _, h.drewN _⟩
end Go.Proofs.YtjiiiimhegkklaaDoor
