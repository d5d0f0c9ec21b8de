/- codec.read: one code. -/
import Derived.Test.YtggnifejlheebaaDoorCodecEnvelopeP10
namespace Go.Proofs.YtggnifejlheebaaDoor
open Go.RowKit Pl

theorem quietL {P : Program} {f : FuncId} {args : Array Value} {w : World} {n : Nat} {v : Value}
    (h : Calls P f args (w.drewN n) fun e w' => e = .returned v ∧ w.drewN n = w') : Calls P f args (w.drewN n) fun e w'' => e = .returned v ∧ ∃ m, w'' = w.drewN m :=
  h.mono fun _ _ ⟨he, hm⟩ => ⟨he, n, hm.symm⟩
theorem ones_drop {most : Nat} {s : List Bool} {i : Nat} {t : List Bool} (h : ones most s = some (i, t)) : t = s.drop (i + 1) ∧ i ≤ most ∧ i + 1 ≤ s.length := by
  obtain ⟨e, hi⟩ := un_ones h
  have hl : (un i).length = i + 1 := by simp [un]
  refine ⟨?_, hi, by rw [e, List.length_append, hl]; omega⟩
  rw [e, List.drop_append_of_le_length (by omega), List.drop_of_length_le (by omega)]; rfl

theorem i64_xor_zero (x : Nat) (hx : x < 9223372036854775808) : bits BinOp.xor IntKind.i64 (x : Nat) 0 = (x : Int) := by
  show IntKind.i64.wrap ((BitVec.ofInt 64 (x : Int) ^^^ BitVec.ofInt 64 0).toNat : Int) = _
  rw [show BitVec.ofInt 64 0 = 0#64 from rfl, BitVec.xor_zero, BitVec.ofInt_natCast, BitVec.toNat_ofNat, Nat.mod_eq_of_lt (by omega), IntKind.wrap_i64]
  omega
theorem i64_xor_ones (x : Nat) (hx : x < 9223372036854775808) : bits BinOp.xor IntKind.i64 (x : Nat) (-1) = -(x : Int) - 1 := by
  show IntKind.i64.wrap ((BitVec.ofInt 64 (x : Int) ^^^ BitVec.ofInt 64 (-1)).toNat : Int) = _
  rw [show BitVec.ofInt 64 (-1) = BitVec.allOnes 64 from by decide, BitVec.xor_allOnes, BitVec.toNat_not, BitVec.ofInt_natCast, BitVec.toNat_ofNat, Nat.mod_eq_of_lt (by omega), IntKind.wrap_i64]
  omega
theorem unzig_bits (z : Nat) (hz : z < 18446744073709551616) : bits BinOp.xor IntKind.i64 (wrap64 ((z : Int) / 2)) (wrap64 (-wrap64 (bits BinOp.and IntKind.u64 (z : Nat) 1))) = unzig z := by
  have h1 : bits BinOp.and IntKind.u64 (z : Nat) 1 = ((z % 2 : Nat) : Int) := by
    have h := u64_and_nat z 1 hz (by omega)
    rw [nat_mask1] at h
    exact h
  have h2 : wrap64 ((z : Int) / 2) = ((z / 2 : Nat) : Int) := by unfold wrap64; omega
  rw [h1, h2]
  unfold unzig
  have : z % 2 = 0 ∨ z % 2 = 1 := by omega
  rcases this with h | h
  · rw [h, if_pos rfl]
    have : wrap64 (-wrap64 ((0 : Nat) : Int)) = 0 := by unfold wrap64; omega
    rw [this, i64_xor_zero _ (by omega)]
  · rw [h, if_neg (by omega)]
    have : wrap64 (-wrap64 ((1 : Nat) : Int)) = -1 := by unfold wrap64; omega
    rw [this, i64_xor_ones _ (by omega)]

/- what a call of read does -/
def RPost (base g : Nat) (v : Value) (bs : List Nat) (w : World) (o : Option (Int × List Bool)) (e : Ending) (w' : World) : Prop :=
  KeepsR g w w' ∧
  match o with
  | some (n, t) => e = .returned (.tuple #[.int .i64 n, .bool true]) ∧ ∃ a, BR w' base g v bs a 0 ∧ t = (bitsOf bs).drop a
  | none => e = .returned (.tuple #[.int .i64 0, .bool false])

theorem Tab.keepR {w w' : World} {B g : Nat} (h : Tab w B) (hk : KeepsR g w w') (hg : B ≤ g) : Tab w' B := h.keep hk fun i hi e => by omega

set_option maxHeartbeats 3200000 in
set_option maxRecDepth 100000 in
theorem read_any (g base : Nat) (v : Value) (bs : List Nat) (a : Nat) (w : World) (h : BR w base g v bs a 0) (hg : base ≤ g) (ht : Tab w base) :
    Calls Tryd.prog 24 #[.pointer (some ⟨g, 0, none⟩)] w (RPost base g v bs w (parse ((bitsOf bs).drop a))) := by
  have HA := Lib.hid (at_any g base v bs a 0 w h)
  have HU := Lib.hid (unary_any g base v bs a 5 w h (by omega))
  have hsm := h.small
  have hhe := h.here
  unfold parse
  cases ho : ones 5 ((bitsOf bs).drop a) with
  | none =>
    simp only
    rw [ho] at HU
    clear ho
    have te : ((a : Int) == (a : Int)) = true := by simp
    go_enter Tryd.func24, Tryd.ntmps24
    go_wp2_with fail
    refine HA.out.mono ?_
    rintro e w' ⟨rfl, rfl⟩
    go_wp2_with fail
    refine HU.out.mono ?_
    rintro e w2 ⟨k1, rfl, er, _, k2⟩
    have HA2 := Lib.hid (at_any g base v bs a er w2 k2)
    go_wp2_with fail
    refine HA2.out.mono ?_
    rintro e w' ⟨rfl, rfl⟩
    go_wp2_with fail
    go_ret2
    exact ⟨k1, rfl⟩
  | some p =>
    obtain ⟨i, t⟩ := p
    simp only
    obtain ⟨hd, hi5, hil⟩ := ones_drop ho
    rw [List.length_drop, bitsOf_length] at hil
    rw [List.drop_drop] at hd
    rw [ho] at HU
    have HD := Lib.hid hd
    have htl : t.length = 8 * bs.length - (a + i + 1) := by rw [hd, List.length_drop, bitsOf_length]; omega
    have HTL := Lib.hid htl
    have hw64 := width_le i
    clear ho hd htl
    have te : (((a + i + 1 : Nat) : Int) == (a : Int)) = false := by rw [beq_eq_false_iff_ne]; omega
    have te2 : ((a : Int) + (i : Int) + 1 == (a : Int)) = false := by rw [beq_eq_false_iff_ne]; omega
    by_cases hshort : t.length < width i
    · rw [if_pos hshort]
      rw [HTL.out] at hshort
      go_enter Tryd.func24, Tryd.ntmps24
      go_wp2_with fail
      refine HA.out.mono ?_
      rintro e w' ⟨rfl, rfl⟩
      go_wp2_with fail
      refine HU.out.mono ?_
      rintro e w2 ⟨k1, rfl, k2⟩
      have HA2 := Lib.hid (at_any g base v bs (a + i + 1) 0 w2 k2)
      have ht2 := ht.keepR k1 hg
      have hc := ht2.2 i (by omega)
      go_wp2_with fail
      refine HA2.out.mono ?_
      rintro e w' ⟨rfl, rfl⟩
      have HBt := Lib.hid (rdbits_short g base v bs (a + i + 1) (width i) w2 k2 hw64 (by omega))
      go_wp2_with fail
      refine HBt.out.mono ?_
      rintro e w3 ⟨rfl, k3, k4⟩
      have hc3 := (ht2.keepR k3 hg).2 i (by omega)
      have tne : (((a + i + 1 : Nat) : Int) != ((a + i + 1 : Nat) : Int) + (width i : Int)) = true := by rw [bne_iff_ne]; omega
      have tne2 : ((a : Int) + (i : Int) + 1 != (a : Int) + (i : Int) + 1 + (width i : Int)) = true := by rw [bne_iff_ne]; omega
      have hi0 : (0 : Int) ≤ (i : Int) := by omega
      have hi6 : (i : Int) < 6 := by omega
      go_wp2_with fail
      go_quiet ((go_at_call 50; exact quietL (at_any g base v bs (a + i + 1) 3 _ (k4.drewN _))))
      go_wp2_with fail
      go_ret2
      exact ⟨(k1.trans k3).drewN _, rfl⟩
    · rw [if_neg hshort]
      rw [HTL.out] at hshort
      have hzb : ∀ w2, BR w2 base g v bs (a + i + 1) 0 → Calls Tryd.prog 52 #[.pointer (some ⟨g, 0, none⟩), .int .i64 (width i : Nat)] w2 fun e w' => e = .returned (.int .u64 (val (t.take (width i)) : Nat)) ∧ KeepsR g w2 w' ∧ BR w' base g v bs (a + i + 1 + width i) 0 := by
        intro w2 k2
        rw [HD.out]
        exact rdbits_ok g base v bs (a + i + 1) (width i) w2 k2 hw64 (by omega)
      have HZB := Lib.hid hzb
      have hzl : val (t.take (width i)) < 18446744073709551616 := by
        have h1 := val_lt (t.take (width i))
        have h2 : (t.take (width i)).length ≤ 64 := by rw [List.length_take]; omega
        have h3 := Nat.pow_le_pow_right (n := 2) (by omega) h2
        have h4 := Nat.lt_of_lt_of_le h1 h3
        simpa using h4
      have HZL := Lib.hid hzl
      clear hzb hzl
      generalize val (t.take (width i)) = z at *
      have hi0 : (0 : Int) ≤ (i : Int) := by omega
      have hi6 : (i : Int) < 6 := by omega
      by_cases hi : i = 0
      · rw [if_neg (by omega)]
        have tg : decide (0 < i) = false := by rw [decide_eq_false_iff_not]; omega
        have hi1 : i ≤ 0 := by omega
        clear hi
        go_enter Tryd.func24, Tryd.ntmps24
        go_wp2_with fail
        refine HA.out.mono ?_
        rintro e w' ⟨rfl, rfl⟩
        go_wp2_with fail
        refine HU.out.mono ?_
        rintro e w2 ⟨k1, rfl, k2⟩
        have HA2 := Lib.hid (at_any g base v bs (a + i + 1) 0 w2 k2)
        have ht2 := ht.keepR k1 hg
        have hc := ht2.2 i (by omega)
        go_wp2_with fail
        refine HA2.out.mono ?_
        rintro e w' ⟨rfl, rfl⟩
        have HBt := Lib.hid (HZB.out w2 k2)
        go_wp2_with fail
        refine HBt.out.mono ?_
        rintro e w3 ⟨rfl, k3, k4⟩
        have hc3 := (ht2.keepR k3 hg).2 i (by omega)
        have hwr : IntKind.i64.wrap ((a : Int) + (i : Int) + 1 + (width i : Int)) = (a : Int) + (i : Int) + 1 + (width i : Int) := IntWalk.i64_in _ (by omega)
        have tne : (((a + i + 1 + width i : Nat) : Int) != ((a + i + 1 : Nat) : Int) + (width i : Int)) = false := by rw [bne_eq_false_iff_eq]; omega
        have tne2 : ((a : Int) + (i : Int) + 1 + (width i : Int) != (a : Int) + (i : Int) + 1 + (width i : Int)) = false := by rw [bne_eq_false_iff_eq]
        go_wp2_with fail
        go_quiet ((go_at_call 50; exact quietL (at_any g base v bs _ 0 _ (k4.drewN _))))
        go_wp2_with fail
        go_ret2
        refine ⟨(k1.trans k3).drewN _, ?_, _, k4.drewN _, ?_⟩
        · rw [← unzig_bits z HZL.out]; rfl
        · rw [HD.out, List.drop_drop]; rfl
      · have tg : decide (0 < i) = true := by rw [decide_eq_true_eq]; omega
        have hwi := width_le (i - 1)
        by_cases hz : z < 2 ^ width (i - 1)
        · rw [if_pos ⟨by omega, hz⟩]
          go_enter Tryd.func24, Tryd.ntmps24
          go_wp2_with fail
          refine HA.out.mono ?_
          rintro e w' ⟨rfl, rfl⟩
          go_wp2_with fail
          refine HU.out.mono ?_
          rintro e w2 ⟨k1, rfl, k2⟩
          have HA2 := Lib.hid (at_any g base v bs (a + i + 1) 0 w2 k2)
          have ht2 := ht.keepR k1 hg
          have hc := ht2.2 i (by omega)
          go_wp2_with fail
          refine HA2.out.mono ?_
          rintro e w' ⟨rfl, rfl⟩
          have HBt := Lib.hid (HZB.out w2 k2)
          go_wp2_with fail
          refine HBt.out.mono ?_
          rintro e w3 ⟨rfl, k3, k4⟩
          have hc3 := (ht2.keepR k3 hg).2 i (by omega)
          have hwr : IntKind.i64.wrap ((a : Int) + (i : Int) + 1 + (width i : Int)) = (a : Int) + (i : Int) + 1 + (width i : Int) := IntWalk.i64_in _ (by omega)
          have tne : (((a + i + 1 + width i : Nat) : Int) != ((a + i + 1 : Nat) : Int) + (width i : Int)) = false := by rw [bne_eq_false_iff_eq]; omega
          have tne2 : ((a : Int) + (i : Int) + 1 + (width i : Int) != (a : Int) + (i : Int) + 1 + (width i : Int)) = false := by rw [bne_eq_false_iff_eq]
          have hc4 := (ht2.keepR k3 hg).2 (i - 1) (by omega)
          have hj0 : (0 : Int) ≤ (i : Int) - 1 := by omega
          have hj6 : (i : Int) - 1 < 6 := by omega
          have hwj : IntKind.i64.wrap ((i : Int) - 1) = (i : Int) - 1 := IntWalk.i64_in _ (by omega)
          have htn : ((i : Int) - 1).toNat = i - 1 := by omega
          have HF := fun n => fits_yes z (width (i - 1)) (w3.drewN n) HZL.out hwi hz
          have HF2 := Lib.hid HF
          clear hz HF
          go_wp2_with fail
          go_quiet (first | (go_at_call 50; exact quietL (at_any g base v bs _ 0 _ (k4.drewN _))) | (go_at_call 39; exact quietL (HF2.out _)))
          go_wp2_with fail
          go_ret2
          exact ⟨(k1.trans k3).drewN _, rfl⟩
        · rw [if_neg (fun h => hz h.2)]
          have hw3 : width (i - 1) < 64 := by
            rcases Nat.lt_or_ge (width (i - 1)) 64 with h | h
            · exact h
            · exfalso
              have : width (i - 1) = 64 := by omega
              rw [this] at hz
              have := HZL.out
              omega
          go_enter Tryd.func24, Tryd.ntmps24
          go_wp2_with fail
          refine HA.out.mono ?_
          rintro e w' ⟨rfl, rfl⟩
          go_wp2_with fail
          refine HU.out.mono ?_
          rintro e w2 ⟨k1, rfl, k2⟩
          have HA2 := Lib.hid (at_any g base v bs (a + i + 1) 0 w2 k2)
          have ht2 := ht.keepR k1 hg
          have hc := ht2.2 i (by omega)
          go_wp2_with fail
          refine HA2.out.mono ?_
          rintro e w' ⟨rfl, rfl⟩
          have HBt := Lib.hid (HZB.out w2 k2)
          go_wp2_with fail
          refine HBt.out.mono ?_
          rintro e w3 ⟨rfl, k3, k4⟩
          have hc3 := (ht2.keepR k3 hg).2 i (by omega)
          have hwr : IntKind.i64.wrap ((a : Int) + (i : Int) + 1 + (width i : Int)) = (a : Int) + (i : Int) + 1 + (width i : Int) := IntWalk.i64_in _ (by omega)
          have tne : (((a + i + 1 + width i : Nat) : Int) != ((a + i + 1 : Nat) : Int) + (width i : Int)) = false := by rw [bne_eq_false_iff_eq]; omega
          have tne2 : ((a : Int) + (i : Int) + 1 + (width i : Int) != (a : Int) + (i : Int) + 1 + (width i : Int)) = false := by rw [bne_eq_false_iff_eq]
          have hc4 := (ht2.keepR k3 hg).2 (i - 1) (by omega)
          have hj0 : (0 : Int) ≤ (i : Int) - 1 := by omega
          have hj6 : (i : Int) - 1 < 6 := by omega
          have hwj : IntKind.i64.wrap ((i : Int) - 1) = (i : Int) - 1 := IntWalk.i64_in _ (by omega)
          have htn : ((i : Int) - 1).toNat = i - 1 := by omega
          have HF := fun n => fits_no z (width (i - 1)) (w3.drewN n) HZL.out hw3 hz
          have HF2 := Lib.hid HF
          clear hz HF
          go_wp2_with fail
          go_quiet (first | (go_at_call 50; exact quietL (at_any g base v bs _ 0 _ (k4.drewN _))) | (go_at_call 39; exact quietL (HF2.out _)))
          go_wp2_with fail
          go_ret2
          refine ⟨(k1.trans k3).drewN _, ?_, _, k4.drewN _, ?_⟩
          · rw [← unzig_bits z HZL.out]; rfl
          · rw [HD.out, List.drop_drop]; rfl
end Go.Proofs.YtggnifejlheebaaDoor
