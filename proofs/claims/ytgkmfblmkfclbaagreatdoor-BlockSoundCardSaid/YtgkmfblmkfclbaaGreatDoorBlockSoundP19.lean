/- The reader of package wire: unsigned and signed numbers, the end. The reader of package wire: byte slices. -/
import Derived.Test.YtgkmfblmkfclbaaGreatDoorBlockSoundP18
import Derived.Test.YtgkmfblmkfclbaaGreatDoorBlockSoundP14
import Derived.Test.YtgkmfblmkfclbaaGreatDoorBlockSoundP16
namespace Go.Proofs.YtgkmfblmkfclbaaGreatDoor
open Go.RowKit Pl

def stP (bs : List Nat) (a : Nat) (er : Int) : RSt := if er = 0 then .inr (bs.drop a) else .inl er
theorem stP_ok (bs : List Nat) (a : Nat) : stP bs a 0 = .inr (bs.drop a) := rfl
theorem stP_err (bs : List Nat) (a : Nat) {er : Int} (h : er ≠ 0) : stP bs a er = .inl er := if_neg h
theorem and127 (x : Nat) (h : x < 256) : bits BinOp.and IntKind.u8 (x : Int) 127 = ((x % 128 : Nat) : Int) := by
  have h1 := u8_and_nat x 127 h (by omega)
  have key : ∀ x : Fin 256, x.1 &&& 127 = x.1 % 128 := by decide +kernel
  rw [key ⟨x, h⟩] at h1
  exact h1
theorem or_group (a x i : Nat) (ha : a < 128 ^ i) (hx : x < 128) (hi : i ≤ 9) (h9 : i = 9 → x ≤ 1) : bits BinOp.or IntKind.u64 (a : Int) (IntKind.u64.wrap ((x : Int) * 2 ^ (7 * i))) = ((a + x * 128 ^ i : Nat) : Int) := by
  have hp : (128 : Nat) ^ i = 2 ^ (7 * i) := by rw [Nat.pow_mul]
  rw [hp] at ha ⊢
  have e : (x : Int) * 2 ^ (7 * i) = ((x * 2 ^ (7 * i) : Nat) : Int) := by rw [Int.natCast_mul, Int.natCast_pow]; rfl
  have hl : x * 2 ^ (7 * i) < 18446744073709551616 := by
    by_cases h : i = 9
    · have := h9 h
      subst h
      have : x * 2 ^ (7 * 9) ≤ 1 * 2 ^ (7 * 9) := Nat.mul_le_mul this (Nat.le_refl _)
      omega
    · have hq : (2 : Nat) ^ (7 * i) ≤ 2 ^ 56 := Nat.pow_le_pow_right (by omega) (by omega)
      have : x * 2 ^ (7 * i) ≤ 127 * 2 ^ 56 := Nat.mul_le_mul (by omega) hq
      omega
  have ha2 : a < 18446744073709551616 := by
    have hq : (2 : Nat) ^ (7 * i) ≤ 2 ^ 63 := Nat.pow_le_pow_right (by omega) (by omega)
    omega
  rw [e, IntKind.wrap_u64, Int.emod_eq_of_lt (by omega) (by omega), u64_or_nat _ _ ha2 hl, or_shift a x _ ha]
/- what Uint does to the state of a reader -/
def URPost (base g : Nat) (v : Value) (bs : List Nat) (w : World) (o : Nat × RSt) (e : Ending) (w' : World) : Prop :=
  e = .returned (.int .u64 (o.1 : Nat)) ∧ KeepsR g w w' ∧ ∃ a er, WR w' base g v bs a er ∧ stP bs a er = o.2

set_option maxHeartbeats 6400000 in
set_option maxRecDepth 100000 in
theorem uintR_any (g base : Nat) (v : Value) (bs : List Nat) (a : Nat) (er : Int) (w : World) (h : WR w base g v bs a er) :
    Calls Tryz.prog 39 #[.pointer (some ⟨g, 0, none⟩)] w (URPost base g v bs w (sU (stP bs a er))) := by
  by_cases he : er ≠ 0
  · rw [stP_err bs a he, sU_inl]
    have HO := Lib.hid (octet_err g base v bs a er w h he)
    have c2 := h.cells.2.2
    have H := Lib.hid h
    have t0 : (er != 0) = true := by simpa using he
    have HE := Lib.hid he
    clear h he
    go_enter Tryz.func39, Tryz.ntmps39
    go_wp2_with fail
    go_loopw [3, 4] (fun _ _ wr => wr = w) (fun _ _ _ => 0)
    case atStart => rfl
    case round =>
      obtain rfl := hrel
      go_wp2_with fail
      refine HO.out.mono ?_
      rintro e w' ⟨rfl, hw'⟩
      rw [hw']; clear hw' w'
      go_wp2_with fail
      go_ret
      exact ⟨rfl, KeepsR.refl _ _, a, er, H.out, stP_err bs a HE.out⟩
  obtain rfl : er = 0 := by omega
  rw [stP_ok]
  obtain ⟨o, ho⟩ : ∃ o, o = sU (.inr (bs.drop a)) := ⟨_, rfl⟩
  rw [← ho]
  have HO := Lib.hid ho
  have H := Lib.hid h
  have hsm := h.small
  clear h ho he
  go_enter Tryz.func39, Tryz.ntmps39
  go_wp2_with fail
  go_loopw [3, 4] (fun x y wr => ∃ (i acc : Nat), x = .int .u64 (acc : Nat) ∧ y = .int .i64 (i : Nat) ∧ i ≤ 9 ∧ acc < 128 ^ i ∧ WR wr base g v bs (a + i) 0 ∧ KeepsR g w wr ∧ uP 0 0 (bs.drop a) = uP i acc (bs.drop (a + i))) (fun _ y _ => 10 - (intOf y).toNat)
  case atStart => exact ⟨0, 0, rfl, rfl, by omega, by decide, H.out, KeepsR.refl _ _, rfl⟩
  case round =>
    clear H
    obtain ⟨i, acc, rfl, rfl, hi, hacc, hW, hK, hU⟩ := hrel
    have HU := Lib.hid hU
    have HAcc := Lib.hid hacc
    have hhe := hW.here
    clear hU hacc
    by_cases hend : bs.length ≤ a + i
    · have HOc := Lib.hid (octet_end g base v bs (a + i) wr hW hend)
      have hu : uP 0 0 (bs.drop a) = .inl 3 := by rw [HU.out, List.drop_eq_nil_of_le hend]; rfl
      have hoo := HO.out
      rw [sU_err hu] at hoo
      have HOO := Lib.hid hoo
      clear hu hoo hend hW
      go_wp2_with fail
      refine HOc.out.mono ?_
      rintro e w2 ⟨rfl, W2, k2⟩
      have c2 := W2.cells.2.2
      go_wp2_with fail
      go_ret
      rw [HOO.out]
      exact ⟨rfl, hK.trans k2, a + i, 3, W2, rfl⟩
    · have hlt : a + i < bs.length := by omega
      have HOc := Lib.hid (octet_ok g base v bs (a + i) wr hW hlt)
      have hcb := getD_byte hW.bytes (a + i)
      have hdrop : bs.drop (a + i) = bs.getD (a + i) 0 :: bs.drop (a + i + 1) := by
        rw [List.drop_eq_getElem_cons hlt, List.getD_eq_getElem?_getD, List.getElem?_eq_getElem hlt]; rfl
      have hu := HU.out
      rw [hdrop] at hu
      have HU2 := Lib.hid hu
      generalize bs.getD (a + i) 0 = c at *
      have hand := and127 c hcb
      clear hu hdrop HU hend hW
      have hcase : ((i = 9 ∧ 1 < c) ∨ (i = 9 ∧ c = 0) ∨ (i ≠ 9 ∧ 0 < i ∧ c = 0)) ∨ ((i = 9 ∧ c = 1) ∨ (i ≠ 9 ∧ 0 < i ∧ c ≠ 0 ∧ c < 128) ∨ (i = 0 ∧ c < 128)) ∨ ((i ≠ 9 ∧ 0 < i ∧ c ≠ 0 ∧ ¬ c < 128) ∨ (i = 0 ∧ ¬ c < 128)) := by omega
      have HI := Lib.hid hi
      rcases hcase with hc | hc | hc
      · have hu := HU2.out
        rw [uP_bad (by omega)] at hu
        have hoo := HO.out
        rw [sU_err hu] at hoo
        have HOO := Lib.hid hoo
        clear hu hoo HU2 HO hand
        rcases hc with ⟨h1, h2⟩ | ⟨h1, h2⟩ | ⟨h1, h2, h3⟩
        · have t9 : ((i : Int) == 9) = true := by simp; omega
          have t9n : (i == 9) = true := by simp; omega
          have t1 : decide (1 < c) = true := by simp; omega
          have t1i : decide ((1 : Int) < (c : Int)) = true := by simp; omega
          go_wp2_with fail
          refine HOc.out.mono ?_
          rintro e w2 ⟨rfl, W2, k2⟩
          obtain ⟨c0, c1, c2⟩ := W2.cells
          have f2 := W2.box.frozen 2
          have HW2 := Lib.hid W2
          clear c0 c1 h1 h2 HOc W2
          go_wp2_with fail
          go_ret
          rw [HOO.out]
          exact ⟨rfl, (hK.trans k2).trans (KeepsR.set g _ 2 _), a + i + 1, 2, HW2.out.setErr 2, rfl⟩
        · have t9 : ((i : Int) == 9) = true := by simp; omega
          have t9n : (i == 9) = true := by simp; omega
          have t1 : decide (1 < c) = false := by simp; omega
          have t1i : decide ((1 : Int) < (c : Int)) = false := by simp; omega
          have t0 : decide (0 < i) = true := by simp; omega
          have t0i : decide ((0 : Int) < (i : Int)) = true := by simp; omega
          have tc : (c == 0) = true := by simp; omega
          have tci : ((c : Int) == 0) = true := by simp; omega
          go_wp2_with fail
          refine HOc.out.mono ?_
          rintro e w2 ⟨rfl, W2, k2⟩
          obtain ⟨c0, c1, c2⟩ := W2.cells
          have f2 := W2.box.frozen 2
          have HW2 := Lib.hid W2
          clear c0 c1 h1 h2 HOc W2
          go_wp2_with fail
          go_ret
          rw [HOO.out]
          exact ⟨rfl, (hK.trans k2).trans (KeepsR.set g _ 2 _), a + i + 1, 2, HW2.out.setErr 2, rfl⟩
        · have t9 : ((i : Int) == 9) = false := by simp; omega
          have t9n : (i == 9) = false := by simp; omega
          have t0 : decide (0 < i) = true := by simp; omega
          have t0i : decide ((0 : Int) < (i : Int)) = true := by simp; omega
          have tc : (c == 0) = true := by simp; omega
          have tci : ((c : Int) == 0) = true := by simp; omega
          go_wp2_with fail
          refine HOc.out.mono ?_
          rintro e w2 ⟨rfl, W2, k2⟩
          obtain ⟨c0, c1, c2⟩ := W2.cells
          have f2 := W2.box.frozen 2
          have HW2 := Lib.hid W2
          clear c0 c1 h1 h2 h3 HOc W2
          go_wp2_with fail
          go_ret
          rw [HOO.out]
          exact ⟨rfl, (hK.trans k2).trans (KeepsR.set g _ 2 _), a + i + 1, 2, HW2.out.setErr 2, rfl⟩
      · have hu := HU2.out
        have hor := or_group acc (c % 128) i HAcc.out (by omega) hi (by omega)
        have em : ((c % 128 : Nat) : Int) = (c : Int) % 128 := by omega
        rw [em] at hor
        rw [uP_end (by omega) (by omega)] at hu
        have hoo := HO.out
        rw [sU_ok hu] at hoo
        have HOO := Lib.hid hoo
        have HOR := Lib.hid hor
        clear hu hoo HU2 HO hor em
        rcases hc with ⟨h1, h2⟩ | ⟨h1, h2, h3, h4⟩ | ⟨h1, h2⟩
        · have t9 : ((i : Int) == 9) = true := by simp; omega
          have t9n : (i == 9) = true := by simp; omega
          have t1 : decide (1 < c) = false := by simp; omega
          have t1i : decide ((1 : Int) < (c : Int)) = false := by simp; omega
          have t0 : decide (0 < i) = true := by simp; omega
          have t0i : decide ((0 : Int) < (i : Int)) = true := by simp; omega
          have tc : (c == 0) = false := by simp; omega
          have tci : ((c : Int) == 0) = false := by simp; omega
          have tl : decide (c < 128) = true := by simp; omega
          have tli : decide ((c : Int) < 128) = true := by simp; omega
          have hi8 : i ≤ 9 := by omega
          clear h1 h2
          go_wp2_with fail
          refine HOc.out.mono ?_
          rintro e w2 ⟨rfl, W2, k2⟩
          obtain ⟨c0, c1, c2⟩ := W2.cells
          have HW2 := Lib.hid W2
          clear c0 c1 HOc W2
          go_wp2_with fail
          go_ret
          rw [HOO.out]
          exact ⟨by rw [HOR.out]; rfl, hK.trans k2, a + i + 1, 0, HW2.out, rfl⟩
        · have t9 : ((i : Int) == 9) = false := by simp; omega
          have t9n : (i == 9) = false := by simp; omega
          have t0 : decide (0 < i) = true := by simp; omega
          have t0i : decide ((0 : Int) < (i : Int)) = true := by simp; omega
          have tc : (c == 0) = false := by simp; omega
          have tci : ((c : Int) == 0) = false := by simp; omega
          have tl : decide (c < 128) = true := by simp; omega
          have tli : decide ((c : Int) < 128) = true := by simp; omega
          have hi8 : i ≤ 9 := by omega
          clear h3 h4
          go_wp2_with fail
          refine HOc.out.mono ?_
          rintro e w2 ⟨rfl, W2, k2⟩
          obtain ⟨c0, c1, c2⟩ := W2.cells
          have HW2 := Lib.hid W2
          clear c0 c1 HOc W2
          go_wp2_with fail
          go_ret
          rw [HOO.out]
          exact ⟨by rw [HOR.out]; rfl, hK.trans k2, a + i + 1, 0, HW2.out, rfl⟩
        · have t9 : ((i : Int) == 9) = false := by simp; omega
          have t9n : (i == 9) = false := by simp; omega
          have t0 : decide (0 < i) = false := by simp; omega
          have t0i : decide ((0 : Int) < (i : Int)) = false := by simp; omega
          have tl : decide (c < 128) = true := by simp; omega
          have tli : decide ((c : Int) < 128) = true := by simp; omega
          have hi8 : i ≤ 9 := by omega
          clear h1 h2
          go_wp2_with fail
          refine HOc.out.mono ?_
          rintro e w2 ⟨rfl, W2, k2⟩
          obtain ⟨c0, c1, c2⟩ := W2.cells
          have HW2 := Lib.hid W2
          clear c0 c1 HOc W2
          go_wp2_with fail
          go_ret
          rw [HOO.out]
          exact ⟨by rw [HOR.out]; rfl, hK.trans k2, a + i + 1, 0, HW2.out, rfl⟩
      · have hu := HU2.out
        have hor := or_group acc (c % 128) i HAcc.out (by omega) hi (by omega)
        have em : ((c % 128 : Nat) : Int) = (c : Int) % 128 := by omega
        rw [em] at hor
        rw [uP_on (by omega) (by omega)] at hu
        have HU3 := Lib.hid hu
        have HOR := Lib.hid hor
        have hac2 : acc + c % 128 * 128 ^ i < 128 ^ (i + 1) := by
          have h1 : c % 128 ≤ 127 := by omega
          have h2 := Nat.mul_le_mul_right (128 ^ i) h1
          have h3 := HAcc.out
          rw [Nat.pow_succ]; omega
        have HA2 := Lib.hid hac2
        clear hu HU2 HO hor em hac2
        rcases hc with ⟨h1, h2, h3, h4⟩ | ⟨h1, h2⟩
        · have t9 : ((i : Int) == 9) = false := by simp; omega
          have t9n : (i == 9) = false := by simp; omega
          have t0 : decide (0 < i) = true := by simp; omega
          have t0i : decide ((0 : Int) < (i : Int)) = true := by simp; omega
          have tc : (c == 0) = false := by simp; omega
          have tci : ((c : Int) == 0) = false := by simp; omega
          have tl : decide (c < 128) = false := by simp; omega
          have tli : decide ((c : Int) < 128) = false := by simp; omega
          have hi8 : i ≤ 8 := by omega
          clear h3 h4
          go_wp2_with fail
          refine HOc.out.mono ?_
          rintro e w2 ⟨rfl, W2, k2⟩
          obtain ⟨c0, c1, c2⟩ := W2.cells
          have HW2 := Lib.hid W2
          clear c0 c1 HOc W2
          go_wp2_with fail
          go_roundw
          case rel => exact ⟨i + 1, acc + c % 128 * 128 ^ i, by rw [HOR.out], by go_num, by omega, HA2.out, by rw [← Nat.add_assoc]; exact HW2.out, hK.trans k2, by rw [← Nat.add_assoc]; exact HU3.out⟩
          case measure => simp [intOf]; omega
        · have t9 : ((i : Int) == 9) = false := by simp; omega
          have t9n : (i == 9) = false := by simp; omega
          have t0 : decide (0 < i) = false := by simp; omega
          have t0i : decide ((0 : Int) < (i : Int)) = false := by simp; omega
          have tl : decide (c < 128) = false := by simp; omega
          have tli : decide ((c : Int) < 128) = false := by simp; omega
          have hi8 : i ≤ 8 := by omega
          clear h1 h2
          go_wp2_with fail
          refine HOc.out.mono ?_
          rintro e w2 ⟨rfl, W2, k2⟩
          obtain ⟨c0, c1, c2⟩ := W2.cells
          have HW2 := Lib.hid W2
          clear c0 c1 HOc W2
          go_wp2_with fail
          go_roundw
          case rel => exact ⟨i + 1, acc + c % 128 * 128 ^ i, by rw [HOR.out], by go_num, by omega, HA2.out, by rw [← Nat.add_assoc]; exact HW2.out, hK.trans k2, by rw [← Nat.add_assoc]; exact HU3.out⟩
          case measure => simp [intOf]; omega

set_option maxHeartbeats 1600000 in
theorem intR_any (g base : Nat) (v : Value) (bs : List Nat) (a : Nat) (er : Int) (w : World) (h : WR w base g v bs a er) :
    Calls Tryz.prog 41 #[.pointer (some ⟨g, 0, none⟩)] w fun e w' => e = .returned (.int .i64 (sI (stP bs a er)).1) ∧ KeepsR g w w' ∧ ∃ a' er', WR w' base g v bs a' er' ∧ stP bs a' er' = (sI (stP bs a er)).2 := by
  have HU := Lib.hid (uintR_any g base v bs a er w h)
  have hz := sU_lt (stP bs a er)
  unfold sI
  generalize sU (stP bs a er) = o at *
  obtain ⟨z, s⟩ := o
  simp only at hz ⊢
  have hub := unzig_bits z hz
  rw [show wrap64 ((z : Int) / 2) = (z : Int) / 2 by unfold wrap64; omega] at hub
  have HUB := Lib.hid hub
  clear h hub
  go_enter Tryz.func41, Tryz.ntmps41
  go_wp2_with fail
  refine HU.out.mono ?_
  rintro e w2 ⟨rfl, k2, a2, er2, W2, s2⟩
  simp only at s2
  clear HU
  go_wp2_with fail
  go_ret
  exact ⟨by rw [← HUB.out]; rfl, k2, a2, er2, W2, s2⟩
set_option maxHeartbeats 1600000 in
theorem endR_any (g base : Nat) (v : Value) (bs : List Nat) (a : Nat) (er : Int) (w : World) (h : WR w base g v bs a er) :
    Calls Tryz.prog 40 #[.pointer (some ⟨g, 0, none⟩)] w fun e w' => e = .returned (.int .i64 (sEnd (stP bs a er))) ∧ ∃ n, w' = w.drewN n := by
  obtain ⟨c0, c1, c2⟩ := h.cells
  obtain ⟨A, n, c, rfl, hn⟩ := h.form
  have hsm := h.small
  have hhe := h.here
  by_cases he : er ≠ 0
  · have t0 : (er != 0) = true := by simpa using he
    rw [stP_err bs a he]
    clear h he hn
    go_enter Tryz.func40, Tryz.ntmps40
    go_wp2_with fail
    go_ret
    exact ⟨rfl, 0, rfl⟩
  obtain rfl : er = 0 := by omega
  rw [stP_ok]
  by_cases hl : a < bs.length
  · have hE : sEnd (.inr (bs.drop a)) = 2 := by rw [List.drop_eq_getElem_cons hl]; rfl
    rw [hE]
    have t0 : (a : Int) < (n : Int) := by omega
    have td : decide (a < n) = true := by simp; omega
    clear h he hE
    go_enter Tryz.func40, Tryz.ntmps40
    go_wp2_with fail
    go_quiet (fail)
    go_wp2_with fail
    go_ret
    exact ⟨rfl, _, rfl⟩
  · have hE : sEnd (.inr (bs.drop a)) = 0 := by rw [List.drop_eq_nil_of_le (by omega)]; rfl
    rw [hE]
    have t0 : ¬ ((a : Int) < (n : Int)) := by omega
    have td : decide (a < n) = false := by simp; omega
    clear h he hE
    go_enter Tryz.func40, Tryz.ntmps40
    go_wp2_with fail
    go_quiet (fail)
    go_wp2_with fail
    go_ret
    exact ⟨rfl, _, rfl⟩
end Go.Proofs.YtgkmfblmkfclbaaGreatDoor
namespace Go.Proofs.YtgkmfblmkfclbaaGreatDoor
open Go.RowKit Pl

theorem make_bytes (n : Nat) (hn : n ≤ 1000000000) : ∃ Z : Array Value, Z.size = n ∧ ∀ w : World, (Instr.makeSlice 42 (.int .i64 0) (.int .i64 (n : Int))).run Tryz.prog w = .ok (.slice (some ⟨w.heap.size, 0, none⟩) 0 n) (w.alloc (.cells Z 5)) := by
  obtain ⟨i, hi, hz, hs, hby⟩ := info_parts slU8.info
  refine ⟨madeCells (Value.int .u8 0).cells n, size_madeCells _ _, fun w => ?_⟩
  have := run_make (P := Tryz.prog) w 42 5 i _ Tryz.underlying42 hi hz .i64 .i64 0 (n : Int) (by omega) (by omega) (by rw [hby]; omega) (by omega)
  rw [hs, Nat.mul_one] at this
  exact this
def LRPost (base g : Nat) (v : Value) (bs : List Nat) (w : World) (o : List Nat × RSt) (e : Ending) (w' : World) : Prop :=
  ∃ u, e = .returned u ∧ Mine w' w.heap.size 5 u (o.1.map vb) ∧ KeepsR g w w' ∧ ∃ a er, WR w' base g v bs a er ∧ stP bs a er = o.2
theorem WR.aside {w w' : World} {base g : Nat} {v u : Value} {bs : List Nat} {a : Nat} {er : Int} {B : Nat} (h : WR w base g v bs a er) (hg : g < B) (hv : ∀ k, v.ownBlock = some k → k < B) (hu : ∀ k, u.ownBlock = some k → B ≤ k) (hk : Keeps (fun i => u.ownBlock = some i) w w') : WR w' base g v bs a er :=
  ⟨h.box.keep hk (fun e => by have := hu g e; omega), h.row.keep hk (fun k e e2 => by have := hv k e; have := hu k e2; omega), h.bytes, h.small, h.here⟩
theorem take_step (bs : List Nat) (a j : Nat) (h : a + j < bs.length) : (bs.drop a).take (j + 1) = (bs.drop a).take j ++ [bs.getD (a + j) 0] := by
  have e : (bs.drop a)[j]? = some (bs.getD (a + j) 0) := by
    rw [List.getElem?_drop, List.getD_eq_getElem?_getD, List.getElem?_eq_getElem h]; rfl
  rw [List.take_add_one, e]; rfl

set_option maxHeartbeats 6400000 in
set_option maxRecDepth 100000 in
theorem listR_any (g base : Nat) (v : Value) (bs : List Nat) (a : Nat) (er : Int) (w : World) (h : WR w base g v bs a er) :
    Calls Tryz.prog 63 #[.pointer (some ⟨g, 0, none⟩), .func (.func 64) #[.pointer (some ⟨g, 0, none⟩)] #[]] w (LRPost base g v bs w (sRaw (stP bs a er))) := by
  have HU := Lib.hid (uintR_any g base v bs a er w h)
  have hgl := h.box.lt
  have hvl : ∀ k, v.ownBlock = some k → k < w.heap.size := fun k e => (h.row.lt k e).2
  have HVL := Lib.hid hvl
  obtain ⟨A, q, c, rfl, hq⟩ := h.form
  have hzl := sU_lt (stP bs a er)
  obtain ⟨o, ho⟩ : ∃ o, o = sRaw (stP bs a er) := ⟨_, rfl⟩
  rw [← ho]
  have HO := Lib.hid ho
  have HQ := Lib.hid hq
  have hsm := h.small
  clear h ho hvl
  go_enter Tryz.func63, Tryz.ntmps63
  go_wp2_with fail
  refine HU.out.mono ?_
  rintro e w2 ⟨rfl, k2, a2, er2, W2, s2⟩
  obtain ⟨c0, c1, c2⟩ := W2.cells
  have hhe := W2.here
  obtain ⟨z, s, hzs⟩ : ∃ z s, sU (stP bs a er) = (z, s) := ⟨_, _, rfl⟩
  have HZS := Lib.hid hzs
  rw [hzs] at s2 hzl ⊢
  simp only at s2 hzl ⊢
  clear hzs HU
  by_cases he : er2 ≠ 0
  · rw [stP_err bs a2 he] at s2
    have hoo := HO.out
    rw [sRaw_err (by rw [HZS.out, ← s2])] at hoo
    have HOO := Lib.hid hoo
    have t0 : (er2 != 0) = true := by simpa using he
    have HE := Lib.hid (stP_err bs a2 he)
    have HW2 := Lib.hid W2
    clear hoo he s2 W2 hq
    go_wp2_with fail
    go_ret
    rw [HOO.out]
    exact ⟨_, rfl, Mine.nil _ _ _, k2, a2, er2, HW2.out, HE.out⟩
  obtain rfl : er2 = 0 := by omega
  rw [stP_ok] at s2
  have HS := Lib.hid s2
  have hsub : ((q : Int) - (a2 : Int)) = ((bs.length - a2 : Nat) : Int) := by omega
  have hlen : (bs.drop a2).length = bs.length - a2 := List.length_drop
  by_cases hm : bs.length - a2 < z
  · have hoo := HO.out
    rw [sRaw_more (by rw [HZS.out, ← s2]) (by rw [hlen]; exact hm)] at hoo
    have HOO := Lib.hid hoo
    have f2 := W2.box.frozen 2
    have u1 : IntKind.i64.wrap ((q : Int) - (a2 : Int)) = (q : Int) - (a2 : Int) := IntWalk.i64_in _ (by omega)
    have u2 : IntKind.u64.wrap ((q : Int) - (a2 : Int)) = (q : Int) - (a2 : Int) := by rw [IntKind.wrap_u64]; omega
    have u3 : decide ((q : Int) - (a2 : Int) < (z : Int)) = true := by simp; omega
    have HW2 := Lib.hid W2
    clear hoo he s2 W2 HS hlen
    go_wp2_with fail
    go_quiet (fail)
    go_wp2_with fail
    go_ret
    rw [HOO.out]
    exact ⟨_, rfl, Mine.nil _ _ _, (k2.drewN _).trans (KeepsR.set g _ 2 _), a2, 3, (HW2.out.drewN _).setErr 3, rfl⟩
  · have hoo := HO.out
    rw [sRaw_ok (by rw [HZS.out, ← s2]) (by rw [hlen]; exact hm)] at hoo
    have HOO := Lib.hid hoo
    have u1 : IntKind.i64.wrap ((q : Int) - (a2 : Int)) = (q : Int) - (a2 : Int) := IntWalk.i64_in _ (by omega)
    have u2 : IntKind.u64.wrap ((q : Int) - (a2 : Int)) = (q : Int) - (a2 : Int) := by rw [IntKind.wrap_u64]; omega
    have u3 : decide ((q : Int) - (a2 : Int) < (z : Int)) = false := by simp; omega
    have HW2 := Lib.hid W2
    have hzq : z ≤ 1000000 := by omega
    have hzb : a2 + z ≤ bs.length := by omega
    obtain ⟨Z, hZs, hmk⟩ := make_bytes z (by omega)
    have HZ := Lib.hid hZs
    clear hoo he s2 W2 HS hlen hm hZs
    go_wp2_with fail
    go_quiet (fail)
    have W3 := HW2.out.drewN nq
    have k3 : KeepsR g w (w2.drewN nq) := k2.drewN nq
    clear c0 c1 c2 HW2 k2
    generalize w2.drewN nq = w3 at *
    have hs3 := k3.size
    have W4 := W3.grew ((Grew.refl w3).alloc (.cells Z 5))
    have k4 : KeepsR g w (w3.alloc (.cells Z 5)) := Keeps.alloc k3 _
    have m4 : Mine (w3.alloc (.cells Z 5)) w.heap.size 5 (.slice (some ⟨w3.heap.size, 0, none⟩) 0 z) (([] : List Nat).map vb) := Mine.mk' (xs := []) hs3 (Box.new w3 5 Z) (by simp) (by unfold maxLen; omega) HZ.out (by simp)
    have H4 := Lib.hid W4
    have HK4 := Lib.hid k4
    have HM4 := Lib.hid m4
    clear W3 k3 W4 k4 m4
    have r1 : IntKind.i64.wrap (z : Int) = (z : Int) := IntWalk.i64_in _ (by omega)
    go_wp2_with fail
    go_loopw [6, 35] (fun x y wr => ∃ (j : Nat) (A' : Option Addr) (c' : Nat), x = .slice A' j c' ∧ y = .int .i64 (j : Nat) ∧ j ≤ z ∧ WR wr base g (.slice A q c) bs (a2 + j) 0 ∧ Mine wr w.heap.size 5 (.slice A' j c') (((bs.drop a2).take j).map vb) ∧ KeepsR g w wr) (fun _ y _ => z - (intOf y).toNat)
    case atStart => exact ⟨0, _, z, rfl, rfl, by omega, H4.out, HM4.out, HK4.out⟩
    case round =>
      clear H4 HM4 HK4
      obtain ⟨j, A', c', rfl, rfl, hj, hW, hM, hK⟩ := hrel
      by_cases hlt : j < z
      · have HOc := Lib.hid (octet_ok g base _ bs (a2 + j) wr hW (by omega))
        have HTS := Lib.hid (take_step bs a2 j (by omega))
        have hml : (((bs.drop a2).take j).map vb).length = j := by rw [List.length_map, List.length_take, List.length_drop]; omega
        generalize bs.getD (a2 + j) 0 = x at *
        clear hW
        go_wp2_with fail
        refine HOc.out.mono ?_
        rintro e w5 ⟨rfl, W5, k5⟩
        have hne : ∀ k, (Value.slice A' j c').ownBlock = some k → w.heap.size ≤ k := fun k e => (hM.lt k e).1
        have M5 := hM.keep k5 (fun k e e2 => by have := hne k e; omega)
        have hK5 := hK.trans k5
        have hs5 := hK5.size
        clear HOc k5 hM hK
        go_wp2_with (at_builtin; refine app_one slU8 rfl (.tmp 37) (.tmp 40) rfl rfl (M5.alloc _) w5.heap.size 1 (.int .u8 (x : Nat)) rfl (Nat.le_refl _) (by simp) (by simp) rfl (by omega) (by simp; omega) ?_; intro r cap w6 hM6 hk6 hr6 hbr6 hlr6; rw [hml] at hM6 ⊢; have W6 := (W5.grew ((Grew.refl w5).alloc (.cells #[.int .u8 (x : Nat)] 5))).aside hgl HVL.out hne hk6; have d2 := W6.cells.2.2)
        have hK6 : KeepsR g w w6 := Keeps.then_ (Keeps.alloc hK5 _) hk6 (fun i hi e => by have := hne i e; omega)
        go_roundw
        case rel => exact ⟨j + 1, _, cap, rfl, by go_num, by omega, W6, by rw [HTS.out, List.map_append]; exact hM6, hK6⟩
        case measure => simp [intOf]; omega
      · obtain rfl : j = z := by omega
        go_wp2_with fail
        go_ret
        rw [HOO.out]
        exact ⟨_, rfl, hM, hK, a2 + j, 0, hW, by rw [stP_ok, List.drop_drop]⟩
set_option maxHeartbeats 1600000 in
theorem rawR_any (g base : Nat) (v : Value) (bs : List Nat) (a : Nat) (er : Int) (w : World) (h : WR w base g v bs a er) :
    Calls Tryz.prog 38 #[.pointer (some ⟨g, 0, none⟩)] w (LRPost base g v bs w (sRaw (stP bs a er))) := by
  have HL := Lib.hid (listR_any g base v bs a er w h)
  clear h
  go_enter Tryz.func38, Tryz.ntmps38
  go_wp2_with fail
  refine HL.out.mono ?_
  rintro e w2 ⟨u, rfl, m2, k2⟩
  obtain ⟨A, n, c, rfl, -⟩ := m2.slice
  go_wp2_with fail
  go_ret
  exact ⟨_, rfl, m2, k2⟩
end Go.Proofs.YtgkmfblmkfclbaaGreatDoor
