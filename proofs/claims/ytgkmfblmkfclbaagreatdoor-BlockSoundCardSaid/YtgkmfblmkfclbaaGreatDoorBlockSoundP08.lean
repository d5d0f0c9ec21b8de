/- codec.read: one code. codec.ReadInts. The reference's reader: Unpack, Unary, Bits, Back. The reference's reader: Unary, Bits. The reference's reader: Bits. The reference's reader: one code. The reference's ReadInts. -/
import Derived.Test.YtgkmfblmkfclbaaGreatDoorBlockSoundP07
namespace Go.Proofs.YtgkmfblmkfclbaaGreatDoor
open Go.RowKit Pl

theorem quietL {P : Program} {f : FuncId} {args : Array Value} {w : World} {n : Nat} {v : Value}
    (h : Calls P f args (w.drewN n) fun e w' => e = .returned v ∧ w.drewN n = w') : Calls P f args (w.drewN n) fun e w'' => e = .returned v ∧ ∃ m, w'' = w.drewN m :=
  h.mono fun _ _ ⟨he, hm⟩ => ⟨he, n, hm.symm⟩
theorem ones_drop {most : Nat} {s : List Bool} {i : Nat} {t : List Bool} (h : ones most s = some (i, t)) : t = s.drop (i + 1) ∧ i ≤ most ∧ i + 1 ≤ s.length := by
  obtain ⟨e, hi⟩ := un_ones h
  have hl : (un i).length = i + 1 := by simp [un]
  refine ⟨?_, hi, by rw [e, List.length_append, hl]; omega⟩
  rw [e, List.drop_append_of_le_length (by omega), List.drop_of_length_le (by omega)]; rfl

theorem i64_xor_zero (x : Nat) (hx : x < 9223372036854775808) : bits BinOp.xor IntKind.i64 (x : Nat) 0 = (x : Int) := by
  show IntKind.i64.wrap ((BitVec.ofInt 64 (x : Int) ^^^ BitVec.ofInt 64 0).toNat : Int) = _
  rw [show BitVec.ofInt 64 0 = 0#64 from rfl, BitVec.xor_zero, BitVec.ofInt_natCast, BitVec.toNat_ofNat, Nat.mod_eq_of_lt (by omega), IntKind.wrap_i64]
  omega
theorem i64_xor_ones (x : Nat) (hx : x < 9223372036854775808) : bits BinOp.xor IntKind.i64 (x : Nat) (-1) = -(x : Int) - 1 := by
  show IntKind.i64.wrap ((BitVec.ofInt 64 (x : Int) ^^^ BitVec.ofInt 64 (-1)).toNat : Int) = _
  rw [show BitVec.ofInt 64 (-1) = BitVec.allOnes 64 from by decide, BitVec.xor_allOnes, BitVec.toNat_not, BitVec.ofInt_natCast, BitVec.toNat_ofNat, Nat.mod_eq_of_lt (by omega), IntKind.wrap_i64]
  omega
theorem unzig_bits (z : Nat) (hz : z < 18446744073709551616) : bits BinOp.xor IntKind.i64 (wrap64 ((z : Int) / 2)) (wrap64 (-wrap64 (bits BinOp.and IntKind.u64 (z : Nat) 1))) = unzig z := by
  have h1 : bits BinOp.and IntKind.u64 (z : Nat) 1 = ((z % 2 : Nat) : Int) := by
    have h := u64_and_nat z 1 hz (by omega)
    rw [nat_mask1] at h
    exact h
  have h2 : wrap64 ((z : Int) / 2) = ((z / 2 : Nat) : Int) := by unfold wrap64; omega
  rw [h1, h2]
  unfold unzig
  have : z % 2 = 0 ∨ z % 2 = 1 := by omega
  rcases this with h | h
  · rw [h, if_pos rfl]
    have : wrap64 (-wrap64 ((0 : Nat) : Int)) = 0 := by unfold wrap64; omega
    rw [this, i64_xor_zero _ (by omega)]
  · rw [h, if_neg (by omega)]
    have : wrap64 (-wrap64 ((1 : Nat) : Int)) = -1 := by unfold wrap64; omega
    rw [this, i64_xor_ones _ (by omega)]

/- what a call of read does -/
def RPost (base g : Nat) (v : Value) (bs : List Nat) (w : World) (o : Option (Int × List Bool)) (e : Ending) (w' : World) : Prop :=
  KeepsR g w w' ∧
  match o with
  | some (n, t) => e = .returned (.tuple #[.int .i64 n, .bool true]) ∧ ∃ a, BR w' base g v bs a 0 ∧ t = (bitsOf bs).drop a
  | none => e = .returned (.tuple #[.int .i64 0, .bool false])

theorem Tab.keepR {w w' : World} {B g : Nat} (h : Tab w B) (hk : KeepsR g w w') (hg : B ≤ g) : Tab w' B := h.keep hk fun i hi e => by omega

set_option maxHeartbeats 3200000 in
set_option maxRecDepth 100000 in
theorem read_any (g base : Nat) (v : Value) (bs : List Nat) (a : Nat) (w : World) (h : BR w base g v bs a 0) (hg : base ≤ g) (ht : Tab w base) :
    Calls Tryz.prog 66 #[.pointer (some ⟨g, 0, none⟩)] w (RPost base g v bs w (parse ((bitsOf bs).drop a))) := by
  have HA := Lib.hid (at_any g base v bs a 0 w h)
  have HU := Lib.hid (unary_any g base v bs a 5 w h (by omega))
  have hsm := h.small
  have hhe := h.here
  unfold parse
  cases ho : ones 5 ((bitsOf bs).drop a) with
  | none =>
    simp only
    rw [ho] at HU
    clear ho
    have te : ((a : Int) == (a : Int)) = true := by simp
    go_enter Tryz.func66, Tryz.ntmps66
    go_wp2_with fail
    refine HA.out.mono ?_
    rintro e w' ⟨rfl, rfl⟩
    go_wp2_with fail
    refine HU.out.mono ?_
    rintro e w2 ⟨k1, rfl, er, _, k2⟩
    have HA2 := Lib.hid (at_any g base v bs a er w2 k2)
    go_wp2_with fail
    refine HA2.out.mono ?_
    rintro e w' ⟨rfl, rfl⟩
    go_wp2_with fail
    go_ret2
    exact ⟨k1, rfl⟩
  | some p =>
    obtain ⟨i, t⟩ := p
    simp only
    obtain ⟨hd, hi5, hil⟩ := ones_drop ho
    rw [List.length_drop, bitsOf_length] at hil
    rw [List.drop_drop] at hd
    rw [ho] at HU
    have HD := Lib.hid hd
    have htl : t.length = 8 * bs.length - (a + i + 1) := by rw [hd, List.length_drop, bitsOf_length]; omega
    have HTL := Lib.hid htl
    have hw64 := width_le i
    clear ho hd htl
    have te : (((a + i + 1 : Nat) : Int) == (a : Int)) = false := by rw [beq_eq_false_iff_ne]; omega
    have te2 : ((a : Int) + (i : Int) + 1 == (a : Int)) = false := by rw [beq_eq_false_iff_ne]; omega
    by_cases hshort : t.length < width i
    · rw [if_pos hshort]
      rw [HTL.out] at hshort
      go_enter Tryz.func66, Tryz.ntmps66
      go_wp2_with fail
      refine HA.out.mono ?_
      rintro e w' ⟨rfl, rfl⟩
      go_wp2_with fail
      refine HU.out.mono ?_
      rintro e w2 ⟨k1, rfl, k2⟩
      have HA2 := Lib.hid (at_any g base v bs (a + i + 1) 0 w2 k2)
      have ht2 := ht.keepR k1 hg
      have hc := ht2.2 i (by omega)
      go_wp2_with fail
      refine HA2.out.mono ?_
      rintro e w' ⟨rfl, rfl⟩
      have HBt := Lib.hid (rdbits_short g base v bs (a + i + 1) (width i) w2 k2 hw64 (by omega))
      go_wp2_with fail
      refine HBt.out.mono ?_
      rintro e w3 ⟨rfl, k3, k4⟩
      have hc3 := (ht2.keepR k3 hg).2 i (by omega)
      have tne : (((a + i + 1 : Nat) : Int) != ((a + i + 1 : Nat) : Int) + (width i : Int)) = true := by rw [bne_iff_ne]; omega
      have tne2 : ((a : Int) + (i : Int) + 1 != (a : Int) + (i : Int) + 1 + (width i : Int)) = true := by rw [bne_iff_ne]; omega
      have hi0 : (0 : Int) ≤ (i : Int) := by omega
      have hi6 : (i : Int) < 6 := by omega
      go_wp2_with fail
      go_quiet ((go_at_call 83; exact quietL (at_any g base v bs (a + i + 1) 3 _ (k4.drewN _))))
      go_wp2_with fail
      go_ret2
      exact ⟨(k1.trans k3).drewN _, rfl⟩
    · rw [if_neg hshort]
      rw [HTL.out] at hshort
      have hzb : ∀ w2, BR w2 base g v bs (a + i + 1) 0 → Calls Tryz.prog 85 #[.pointer (some ⟨g, 0, none⟩), .int .i64 (width i : Nat)] w2 fun e w' => e = .returned (.int .u64 (val (t.take (width i)) : Nat)) ∧ KeepsR g w2 w' ∧ BR w' base g v bs (a + i + 1 + width i) 0 := by
        intro w2 k2
        rw [HD.out]
        exact rdbits_ok g base v bs (a + i + 1) (width i) w2 k2 hw64 (by omega)
      have HZB := Lib.hid hzb
      have hzl : val (t.take (width i)) < 18446744073709551616 := by
        have h1 := val_lt (t.take (width i))
        have h2 : (t.take (width i)).length ≤ 64 := by rw [List.length_take]; omega
        have h3 := Nat.pow_le_pow_right (n := 2) (by omega) h2
        have h4 := Nat.lt_of_lt_of_le h1 h3
        simpa using h4
      have HZL := Lib.hid hzl
      clear hzb hzl
      generalize val (t.take (width i)) = z at *
      have hi0 : (0 : Int) ≤ (i : Int) := by omega
      have hi6 : (i : Int) < 6 := by omega
      by_cases hi : i = 0
      · rw [if_neg (by omega)]
        have tg : decide (0 < i) = false := by rw [decide_eq_false_iff_not]; omega
        have hi1 : i ≤ 0 := by omega
        clear hi
        go_enter Tryz.func66, Tryz.ntmps66
        go_wp2_with fail
        refine HA.out.mono ?_
        rintro e w' ⟨rfl, rfl⟩
        go_wp2_with fail
        refine HU.out.mono ?_
        rintro e w2 ⟨k1, rfl, k2⟩
        have HA2 := Lib.hid (at_any g base v bs (a + i + 1) 0 w2 k2)
        have ht2 := ht.keepR k1 hg
        have hc := ht2.2 i (by omega)
        go_wp2_with fail
        refine HA2.out.mono ?_
        rintro e w' ⟨rfl, rfl⟩
        have HBt := Lib.hid (HZB.out w2 k2)
        go_wp2_with fail
        refine HBt.out.mono ?_
        rintro e w3 ⟨rfl, k3, k4⟩
        have hc3 := (ht2.keepR k3 hg).2 i (by omega)
        have hwr : IntKind.i64.wrap ((a : Int) + (i : Int) + 1 + (width i : Int)) = (a : Int) + (i : Int) + 1 + (width i : Int) := IntWalk.i64_in _ (by omega)
        have tne : (((a + i + 1 + width i : Nat) : Int) != ((a + i + 1 : Nat) : Int) + (width i : Int)) = false := by rw [bne_eq_false_iff_eq]; omega
        have tne2 : ((a : Int) + (i : Int) + 1 + (width i : Int) != (a : Int) + (i : Int) + 1 + (width i : Int)) = false := by rw [bne_eq_false_iff_eq]
        go_wp2_with fail
        go_quiet ((go_at_call 83; exact quietL (at_any g base v bs _ 0 _ (k4.drewN _))))
        go_wp2_with fail
        go_ret2
        refine ⟨(k1.trans k3).drewN _, ?_, _, k4.drewN _, ?_⟩
        · rw [← unzig_bits z HZL.out]; rfl
        · rw [HD.out, List.drop_drop]; rfl
      · have tg : decide (0 < i) = true := by rw [decide_eq_true_eq]; omega
        have hwi := width_le (i - 1)
        by_cases hz : z < 2 ^ width (i - 1)
        · rw [if_pos ⟨by omega, hz⟩]
          go_enter Tryz.func66, Tryz.ntmps66
          go_wp2_with fail
          refine HA.out.mono ?_
          rintro e w' ⟨rfl, rfl⟩
          go_wp2_with fail
          refine HU.out.mono ?_
          rintro e w2 ⟨k1, rfl, k2⟩
          have HA2 := Lib.hid (at_any g base v bs (a + i + 1) 0 w2 k2)
          have ht2 := ht.keepR k1 hg
          have hc := ht2.2 i (by omega)
          go_wp2_with fail
          refine HA2.out.mono ?_
          rintro e w' ⟨rfl, rfl⟩
          have HBt := Lib.hid (HZB.out w2 k2)
          go_wp2_with fail
          refine HBt.out.mono ?_
          rintro e w3 ⟨rfl, k3, k4⟩
          have hc3 := (ht2.keepR k3 hg).2 i (by omega)
          have hwr : IntKind.i64.wrap ((a : Int) + (i : Int) + 1 + (width i : Int)) = (a : Int) + (i : Int) + 1 + (width i : Int) := IntWalk.i64_in _ (by omega)
          have tne : (((a + i + 1 + width i : Nat) : Int) != ((a + i + 1 : Nat) : Int) + (width i : Int)) = false := by rw [bne_eq_false_iff_eq]; omega
          have tne2 : ((a : Int) + (i : Int) + 1 + (width i : Int) != (a : Int) + (i : Int) + 1 + (width i : Int)) = false := by rw [bne_eq_false_iff_eq]
          have hc4 := (ht2.keepR k3 hg).2 (i - 1) (by omega)
          have hj0 : (0 : Int) ≤ (i : Int) - 1 := by omega
          have hj6 : (i : Int) - 1 < 6 := by omega
          have hwj : IntKind.i64.wrap ((i : Int) - 1) = (i : Int) - 1 := IntWalk.i64_in _ (by omega)
          have htn : ((i : Int) - 1).toNat = i - 1 := by omega
          have HF := fun n => fits_yes z (width (i - 1)) (w3.drewN n) HZL.out hwi hz
          have HF2 := Lib.hid HF
          clear hz HF
          go_wp2_with fail
          go_quiet (first | (go_at_call 83; exact quietL (at_any g base v bs _ 0 _ (k4.drewN _))) | (go_at_call 80; exact quietL (HF2.out _)))
          go_wp2_with fail
          go_ret2
          exact ⟨(k1.trans k3).drewN _, rfl⟩
        · rw [if_neg (fun h => hz h.2)]
          have hw3 : width (i - 1) < 64 := by
            rcases Nat.lt_or_ge (width (i - 1)) 64 with h | h
            · exact h
            · exfalso
              have : width (i - 1) = 64 := by omega
              rw [this] at hz
              have := HZL.out
              omega
          go_enter Tryz.func66, Tryz.ntmps66
          go_wp2_with fail
          refine HA.out.mono ?_
          rintro e w' ⟨rfl, rfl⟩
          go_wp2_with fail
          refine HU.out.mono ?_
          rintro e w2 ⟨k1, rfl, k2⟩
          have HA2 := Lib.hid (at_any g base v bs (a + i + 1) 0 w2 k2)
          have ht2 := ht.keepR k1 hg
          have hc := ht2.2 i (by omega)
          go_wp2_with fail
          refine HA2.out.mono ?_
          rintro e w' ⟨rfl, rfl⟩
          have HBt := Lib.hid (HZB.out w2 k2)
          go_wp2_with fail
          refine HBt.out.mono ?_
          rintro e w3 ⟨rfl, k3, k4⟩
          have hc3 := (ht2.keepR k3 hg).2 i (by omega)
          have hwr : IntKind.i64.wrap ((a : Int) + (i : Int) + 1 + (width i : Int)) = (a : Int) + (i : Int) + 1 + (width i : Int) := IntWalk.i64_in _ (by omega)
          have tne : (((a + i + 1 + width i : Nat) : Int) != ((a + i + 1 : Nat) : Int) + (width i : Int)) = false := by rw [bne_eq_false_iff_eq]; omega
          have tne2 : ((a : Int) + (i : Int) + 1 + (width i : Int) != (a : Int) + (i : Int) + 1 + (width i : Int)) = false := by rw [bne_eq_false_iff_eq]
          have hc4 := (ht2.keepR k3 hg).2 (i - 1) (by omega)
          have hj0 : (0 : Int) ≤ (i : Int) - 1 := by omega
          have hj6 : (i : Int) - 1 < 6 := by omega
          have hwj : IntKind.i64.wrap ((i : Int) - 1) = (i : Int) - 1 := IntWalk.i64_in _ (by omega)
          have htn : ((i : Int) - 1).toNat = i - 1 := by omega
          have HF := fun n => fits_no z (width (i - 1)) (w3.drewN n) HZL.out hw3 hz
          have HF2 := Lib.hid HF
          clear hz HF
          go_wp2_with fail
          go_quiet (first | (go_at_call 83; exact quietL (at_any g base v bs _ 0 _ (k4.drewN _))) | (go_at_call 80; exact quietL (HF2.out _)))
          go_wp2_with fail
          go_ret2
          refine ⟨(k1.trans k3).drewN _, ?_, _, k4.drewN _, ?_⟩
          · rw [← unzig_bits z HZL.out]; rfl
          · rw [HD.out, List.drop_drop]; rfl
end Go.Proofs.YtgkmfblmkfclbaaGreatDoor
namespace Go.Proofs.YtgkmfblmkfclbaaGreatDoor
open Go.RowKit Pl

/- what is left of the reading -/
def Rest (N : Nat) (t0 : List Bool) (j : Nat) (be la : Int) (s : List Bool) (acc : List Int) : Prop :=
  j ≤ N ∧ reads N 0 0 t0 = (reads (N - j) be la s).map fun p => (acc ++ p.1, p.2)
theorem Rest.start (N : Nat) (t0 : List Bool) : Rest N t0 0 0 0 t0 [] := ⟨by omega, by cases reads N 0 0 t0 <;> simp⟩
theorem Rest.step {N j : Nat} {t0 s t : List Bool} {be la d : Int} {acc : List Int} (h : Rest N t0 j be la s acc) (hj : j < N) (hp : parse s = some (d, t)) : Rest N t0 (j + 1) la (wrap64 (d + 2 * la - be)) t (acc ++ [wrap64 (d + 2 * la - be)]) := by
  refine ⟨by omega, ?_⟩
  rw [h.2]
  obtain ⟨m, hm⟩ : ∃ m, N - j = m + 1 := ⟨N - j - 1, by omega⟩
  rw [hm, show N - (j + 1) = m by omega]
  simp only [reads, hp]
  cases reads m la (wrap64 (d + 2 * la - be)) t <;> simp
theorem Rest.fail {N j : Nat} {t0 s : List Bool} {be la : Int} {acc : List Int} (h : Rest N t0 j be la s acc) (hj : j < N) (hp : parse s = none) : reads N 0 0 t0 = none := by
  rw [h.2]
  obtain ⟨m, hm⟩ : ∃ m, N - j = m + 1 := ⟨N - j - 1, by omega⟩
  rw [hm]
  simp only [reads, hp]
  rfl
theorem Rest.done {N : Nat} {t0 s : List Bool} {be la : Int} {acc : List Int} (h : Rest N t0 N be la s acc) : reads N 0 0 t0 = some (acc, s) := by
  rw [h.2, Nat.sub_self]; simp [reads]
theorem wrap_back (d a b : Int) : wrap64 (d + wrap64 (wrap64 (2 * a) - b)) = wrap64 (d + 2 * a - b) := by unfold wrap64; omega

theorem Grew.thenR {w0 w w' : World} {g : Nat} (h : Grew w0 w) (k : KeepsR g w w') (hg : w0.heap.size ≤ g) : Grew w0 w' := Keeps.then_ h k fun i hi e => by omega
theorem Mine.keepR {w w' : World} {base g : Nat} {e t : TypeId} {v : Value} {xs : List Value} {cs : Array Value} (h : Mine w base e v xs) (k : KeepsR g w w') (hb : Box w g t cs) (hne : e ≠ t) : Mine w' base e v xs :=
  h.keep k fun i hi e1 => by subst e1; exact h.ne_box hi hb hne rfl
theorem BR.aside {w w' : World} {base g base' : Nat} {v u : Value} {bs : List Nat} {a : Nat} {er : Int} {e : TypeId} {xs : List Value} (h : BR w base g v bs a er) (hm : Mine w base' e u xs) (h1 : e ≠ 5) (h2 : e ≠ 141) (hk : Keeps (fun i => u.ownBlock = some i) w w') : BR w' base g v bs a er :=
  ⟨h.box.keep hk (fun e1 => hm.ne_box e1 h.box h2 rfl), h.row.aside hm h1 hk, h.bytes, h.small, h.here⟩

/- what ReadInts does -/
def RIPost (_ : List Nat) (w : World) (o : Option (List Int)) (e : Ending) (w' : World) : Prop :=
  Grew w w' ∧
  match o with
  | some l => ∃ v', e = .returned (.tuple #[v', .int .i64 0]) ∧ Mine w' w.heap.size 3 v' (l.map vi)
  | none => e = .returned (.tuple #[.slice none 0 0, .int .i64 2])

end Go.Proofs.YtgkmfblmkfclbaaGreatDoor
namespace Go.Proofs.YtgkmfblmkfclbaaGreatDoor
open Go.RowKit Pl

theorem bitsOf_snoc (l : List Nat) (x : Nat) : bitsOf (l ++ [x]) = bitsOf l ++ bin x 8 := by
  apply List.ext_getElem?
  intro k
  unfold bitsOf
  rw [List.getElem?_map, List.length_append, List.length_singleton]
  by_cases hk : k < 8 * l.length
  · rw [List.getElem?_append_left (by simp; exact hk), List.getElem?_map, List.getElem?_range hk, List.getElem?_range (by omega)]
    simp only [Option.map_some]
    unfold bitAt
    rw [List.getD_eq_getElem?_getD, List.getD_eq_getElem?_getD, List.getElem?_append_left (by omega)]
  · rw [List.getElem?_append_right (by simp; omega)]
    by_cases hk2 : k < 8 * (l.length + 1)
    · rw [List.getElem?_range hk2]
      unfold bin
      rw [List.getElem?_map, List.length_map, List.length_range, List.getElem?_range (by omega)]
      simp only [Option.map_some]
      unfold bitAt
      have e1 : k / 8 = l.length := by omega
      have e2 : k % 8 = k - 8 * l.length := by omega
      rw [e1, e2, List.getD_eq_getElem?_getD, List.getElem?_append_right (Nat.le_refl _), Nat.sub_self]
      rfl
    · rw [List.getElem?_eq_none (by simp; omega), List.getElem?_eq_none (by rw [bin_length]; simp; omega)]; rfl
theorem bitsOf_take (l : List Nat) (j : Nat) (hj : j < l.length) : bitsOf (l.take (j + 1)) = bitsOf (l.take j) ++ bin (l.getD j 0) 8 := by
  rw [List.take_add_one, List.getElem?_eq_getElem hj, Option.toList_some, bitsOf_snoc, List.getD_eq_getElem?_getD, List.getElem?_eq_getElem hj]; rfl
theorem Rd.byte_at {w : World} {B : Nat} {A : Option Addr} {n c j : Nat} {l : List Nat} (h : Rd w B (.slice A n c) (l.map vb)) (hj : j < l.length) : ∃ ad, A = some ad ∧ ad.block < B ∧ w.cell? (ad.add j) = some (.int .u8 (l.getD j 0 : Nat)) := by
  obtain ⟨ad, u, rfl, hadb, hu, hcell⟩ := h.at_ (j := j) (by rw [List.length_map]; exact hj)
  refine ⟨ad, rfl, hadb, ?_⟩
  rw [List.getElem?_map, List.getElem?_eq_getElem hj] at hu
  rw [hcell, ← Option.some.inj hu, List.getD_eq_getElem?_getD, List.getElem?_eq_getElem hj]; rfl
theorem getD_byte {l : List Nat} (hi : Bytes l) (j : Nat) : l.getD j 0 < 256 := by
  rw [List.getD_eq_getElem?_getD]
  by_cases hj : j < l.length
  · rw [List.getElem?_eq_getElem hj]; exact hi _ (List.getElem_mem hj)
  · rw [List.getElem?_eq_none (by omega)]; decide

end Go.Proofs.YtgkmfblmkfclbaaGreatDoor
namespace Go.Proofs.YtgkmfblmkfclbaaGreatDoor
open Go.RowKit Pl

end Go.Proofs.YtgkmfblmkfclbaaGreatDoor
namespace Go.Proofs.YtgkmfblmkfclbaaGreatDoor
open Go.RowKit Pl

end Go.Proofs.YtgkmfblmkfclbaaGreatDoor
namespace Go.Proofs.YtgkmfblmkfclbaaGreatDoor
open Go.RowKit Pl

theorem len_inj {i j : Nat} (hi : i ≤ 5) (hj : j ≤ 5) (h : i + 1 + width i = j + 1 + width j) : i = j := by
  have h1 : i = 0 ∨ i = 1 ∨ i = 2 ∨ i = 3 ∨ i = 4 ∨ i = 5 := by omega
  have h2 : j = 0 ∨ j = 1 ∨ j = 2 ∨ j = 3 ∨ j = 4 ∨ j = 5 := by omega
  rcases h1 with rfl | rfl | rfl | rfl | rfl | rfl <;> rcases h2 with rfl | rfl | rfl | rfl | rfl | rfl <;> simp [width] at h ⊢

theorem Box.keepR {w w' : World} {g b : Nat} {t : TypeId} {cs : Array Value} (h : Box w b t cs) (k : KeepsR g w w') (hne : b ≠ g) : Box w' b t cs := h.keep k hne
theorem KeepsR.grew {g : Nat} {a w w' : World} (h : KeepsR g a w) (k : Grew w w') : KeepsR g a w' := Keeps.grew h k
theorem Grew.keepsR {g : Nat} {a w : World} (k : Grew a w) : KeepsR g a w := Grew.keeps k

end Go.Proofs.YtgkmfblmkfclbaaGreatDoor
namespace Go.Proofs.YtgkmfblmkfclbaaGreatDoor
open Go.RowKit Pl

theorem step_back (d la be : Int) : wrap64 (la + wrap64 (wrap64 (la - be) + d)) = wrap64 (d + 2 * la - be) := by unfold wrap64; omega
theorem step_next (d la be : Int) : wrap64 (wrap64 (la - be) + d) = wrap64 (wrap64 (d + 2 * la - be) - la) := by unfold wrap64; omega

end Go.Proofs.YtgkmfblmkfclbaaGreatDoor
