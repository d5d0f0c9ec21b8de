/- codec.write: the code of a number. -/
import Derived.Test.YtoojacpkbmgaeaaDoorWUnary
import Derived.Test.YtoojacpkbmgaeaaDoorInts
namespace Go.Proofs.YtoojacpkbmgaeaaDoor
open Go.RowKit Pl

/- the table of widths, below block B -/
def Tab (w : World) (B : Nat) : Prop := 1 < B ∧ ∀ i, i < 6 → w.cell? ⟨1, i, none⟩ = some (.int .i64 (width i : Nat))
theorem Tab.keep {w w' : World} {B : Nat} {S : Nat → Prop} (h : Tab w B) (hk : Keeps S w w') (hs : ∀ i, i < B → ¬ S i) : Tab w' B :=
  ⟨h.1, fun i hi => (World.cell?_of_block (hk.block 1 (World.block_lt_of_cell? w ⟨1, i, none⟩ (h.2 i hi)) (hs _ h.1))).trans (h.2 i hi)⟩
theorem Tab.grew {w w' : World} {B : Nat} (h : Tab w B) (hk : Grew w w') : Tab w' B := h.keep hk fun _ _ e => e
theorem Tab.keepW {w w' : World} {B base g : Nat} {v : Value} {s : List Bool} (h : Tab w B) (hk : KeepsW g v w w') (hb : BW w base g v s) (hg : base ≤ g) (hB : B ≤ base) : Tab w' B :=
  h.keep hk fun i hi e => by
    rcases e with rfl | e
    · omega
    · have := (hb.2.lt i e).1; omega

theorem fits_yes (z k : Nat) (w : World) (_ : z < 18446744073709551616) (hk : k ≤ 64) (h : z < 2 ^ k) :
    Calls Tryd.prog 101 #[.int .u64 (z : Nat), .int .i64 (k : Nat)] w fun e w' => e = .returned (.bool true) ∧ w = w' := by
  have hd : z / 2 ^ k = 0 := Nat.div_eq_of_lt h
  by_cases h64 : 64 ≤ k
  · have ht : decide ((64 : Int) ≤ (k : Int)) = true := by simp; omega
    clear hd h
    go_enter Tryd.func101, Tryd.ntmps101
    go_wp2
    go_ret
    exact ⟨rfl, rfl⟩
  · have ht : decide ((64 : Int) ≤ (k : Int)) = false := by simp; omega
    have hq : ((z : Int) / 2 ^ k == 0) = true := by
      rw [beq_iff_eq]
      have : ((z : Int) / 2 ^ k) = ((z / 2 ^ k : Nat) : Int) := by rw [Int.natCast_ediv, Int.natCast_pow]; rfl
      rw [this, hd]; rfl
    clear hd h
    go_enter Tryd.func101, Tryd.ntmps101
    go_wp2
    go_ret
    exact ⟨rfl, rfl⟩
theorem fits_no (z k : Nat) (w : World) (_ : z < 18446744073709551616) (hk : k < 64) (h : ¬ z < 2 ^ k) :
    Calls Tryd.prog 101 #[.int .u64 (z : Nat), .int .i64 (k : Nat)] w fun e w' => e = .returned (.bool false) ∧ w = w' := by
  have ht : decide ((64 : Int) ≤ (k : Int)) = false := by simp; omega
  have hq : ((z : Int) / 2 ^ k == 0) = false := by
    rw [beq_eq_false_iff_ne]
    have : ((z : Int) / 2 ^ k) = ((z / 2 ^ k : Nat) : Int) := by rw [Int.natCast_ediv, Int.natCast_pow]; rfl
    rw [this]
    have : 0 < z / 2 ^ k := Nat.div_pos (by omega) (Nat.two_pow_pos _)
    omega
  clear h
  go_enter Tryd.func101, Tryd.ntmps101
  go_wp2
  go_ret
  exact ⟨rfl, rfl⟩

theorem xor_ones (a : Nat) (ha : a < 18446744073709551616) : a ^^^ 18446744073709551615 = 18446744073709551615 - a := by
  have h1 : (BitVec.ofNat 64 a ^^^ BitVec.allOnes 64).toNat = a ^^^ 18446744073709551615 := by
    rw [BitVec.toNat_xor, BitVec.toNat_ofNat, BitVec.toNat_allOnes, Nat.mod_eq_of_lt (by omega)]
  have h2 : (BitVec.ofNat 64 a ^^^ BitVec.allOnes 64).toNat = 18446744073709551615 - a := by
    rw [BitVec.xor_allOnes, BitVec.toNat_not, BitVec.toNat_ofNat, Nat.mod_eq_of_lt (by omega)]
  exact h1.symm.trans h2
theorem zig_bits (n : Int) (h : I64 n) : bits BinOp.xor IntKind.u64 (IntKind.u64.wrap (IntKind.u64.wrap n * 2)) (IntKind.u64.wrap (n / 9223372036854775808)) = ((zig n : Nat) : Int) := by
  obtain ⟨h1, h2⟩ := h
  simp only [IntKind.wrap_u64]
  by_cases h0 : 0 ≤ n
  · have e1 : (n % 18446744073709551616 * 2) % 18446744073709551616 = (((2 * n).toNat : Nat) : Int) := by omega
    have e2 : n / 9223372036854775808 % 18446744073709551616 = ((0 : Nat) : Int) := by omega
    rw [e1, e2, u64_xor_nat _ _ (by omega) (by omega), Nat.xor_zero]
    unfold zig; rw [if_pos h0]
  · have e1 : (n % 18446744073709551616 * 2) % 18446744073709551616 = (((2 * n + 18446744073709551616).toNat : Nat) : Int) := by omega
    have e2 : n / 9223372036854775808 % 18446744073709551616 = ((18446744073709551615 : Nat) : Int) := by omega
    rw [e1, e2, u64_xor_nat _ _ (by omega) (by omega), xor_ones _ (by omega)]
    unfold zig; rw [if_neg h0]; omega
set_option maxHeartbeats 800000 in
theorem write_any (g base : Nat) (v : Value) (s : List Bool) (n : Int) (w : World) (h : BW w base g v s) (hg : base ≤ g) (ht : Tab w base) (hs : s.length < 1099511500000) (hb : base ≤ w.heap.size) (hn : I64 n) :
    Calls Tryd.prog 67 #[.pointer (some ⟨g, 0, none⟩), .int .i64 n] w fun e w' => e = .returned (.tuple #[]) ∧
      ∃ v', BW w' base g v' (s ++ code n) ∧ KeepsW g v w w' ∧ Moved w v v' := by
  have hzb := zig_bits n hn
  have hz := zig_lt hn
  have hil := idx_le (zig n)
  obtain ⟨hn1, hn2⟩ := hn
  unfold code
  have HZ := Lib.hid hz
  clear hz
  generalize zig n = z at *
  have hj5 : ∀ j, j ≤ 5 → (z < 2 ^ width j ↔ idx z ≤ j) := by
    intro j hj
    have hz := HZ.out
    have : j = 0 ∨ j = 1 ∨ j = 2 ∨ j = 3 ∨ j = 4 ∨ j = 5 := by omega
    rcases this with rfl | rfl | rfl | rfl | rfl | rfl <;> simp [width] <;> unfold idx <;> (repeat' split) <;> omega
  have HJ := Lib.hid hj5
  have HT := Lib.hid ht
  clear hj5 ht
  go_enter Tryd.func67, Tryd.ntmps67
  go_wp2_with fail
  go_loop [5] (fun i => ∃ j : Nat, j ≤ idx z ∧ i = .int .i64 j) (fun i => idx z - (intOf i).toNat)
  case atStart => exact ⟨0, by omega, rfl⟩
  case round =>
    obtain ⟨j, hj, rfl⟩ := hrel
    have hc := HT.out.2 j (by omega)
    have hw64 := width_le j
    by_cases hlt : j < idx z
    · have hno : ¬ z < 2 ^ width j := by rw [HJ.out j (by omega)]; omega
      have hw : width j < 64 := by
        rcases Nat.lt_or_ge (width j) 64 with h | h
        · exact h
        · exfalso
          have : width j = 64 := by omega
          rw [this] at hno
          have := HZ.out
          omega
      have HF := Lib.hid (fits_no z (width j) w HZ.out hw hno)
      clear hno
      go_wp2_with (go_at_call 101; refine HF.out.mono ?_; rintro e w' ⟨rfl, rfl⟩)
      go_round
      case rel => exact ⟨j + 1, by omega, by go_num⟩
      case measure => simp [intOf]; omega
    · obtain rfl : j = idx z := by omega
      have hyes : z < 2 ^ width (idx z) := by rw [HJ.out _ hil]; omega
      have HF := Lib.hid (fits_yes z (width (idx z)) w HZ.out hw64 hyes)
      clear hyes
      go_wp2_with (go_at_call 101; refine HF.out.mono ?_; rintro e w' ⟨rfl, rfl⟩)
      refine (wunary_any g base v s (idx z) w h (by omega) hb (by omega)).mono ?_
      rintro e w2 ⟨rfl, v2, k1, k2, k3⟩
      have hc2 := (HT.out.keepW k2 h hg (Nat.le_refl _)).2 (idx z) (by omega)
      have hb2 : base ≤ w2.heap.size := Nat.le_trans hb k2.size
      have hl2 : (s ++ un (idx z)).length < 1099511627000 := by simp [un]; omega
      have HW := Lib.hid (wbits_any g base v2 _ z (width (idx z)) w2 k1 hl2 hb2 HZ.out hw64)
      clear hl2 hb2
      go_wp2_with (go_at_call 103; refine HW.out.mono ?_; rintro e w3 ⟨rfl, v3, m1, m2, m3⟩)
      go_end0
      exact ⟨rfl, v3, by rw [← List.append_assoc]; exact m1, k2.trans k3 m2, k3.trans k2.size m3⟩
end Go.Proofs.YtoojacpkbmgaeaaDoor
