/- slices.Repeat of a slice of one number. -/
import Derived.Test.YtgkmfblmkfclbaaGreatDoorBlockSoundP27
import Derived.Test.YtgkmfblmkfclbaaGreatDoorBlockSoundP05
import Derived.Laws.CopyOwn
import Derived.Laws.MakeOwn
import Derived.Deep.RegionLaw
import Derived.Deep.DeepCutAuto
namespace Go.Proofs.YtgkmfblmkfclbaaGreatDoor
open Go.RowKit Pl

theorem mul_any (n : Nat) (hn : n ≤ 1000000) (w : World) : Calls Tryz.prog 70 #[.int .u64 1, .int .u64 (n : Nat)] w fun e w' => e = .returned (.tuple #[.int .u64 0, .int .u64 (n : Nat)]) ∧ w' = w := by
  have h := Any.bits_Mul mulA 1 n (by omega) (by omega) w
  rw [show 1 * n / 18446744073709551616 = 0 by omega, show 1 * n % 18446744073709551616 = n by omega] at h
  exact h
theorem make_ints (n : Nat) (hn : n ≤ 1000000) : ∃ zs : List Value, zs.length = n ∧ ∀ w : World, (Instr.makeSlice 22 (.int .i64 (n : Nat)) (.int .i64 (n : Nat))).run Tryz.prog w = .ok (.slice (some ⟨w.heap.size, 0, none⟩) n n) (w.alloc (.cells zs.toArray 3)) := by
  obtain ⟨i, hi, hz, hs, hby⟩ := info_parts slInt.info
  refine ⟨(madeCells (Value.int .i64 0).cells n).toList, by simp [size_madeCells], fun w => ?_⟩
  have := run_make (P := Tryz.prog) w 22 3 i _ Tryz.underlying22 hi hz .i64 .i64 (n : Int) (n : Int) (by omega) (by omega) (by rw [hby]; omega) (by omega)
  rw [hs, Nat.mul_one] at this
  simpa using this
theorem splice_rep {x : Value} {cur : List Value} {m k : Nat} (h : cur.take m = List.replicate m x) (hm : m + k ≤ cur.length) : (splice cur m (List.replicate k x)).take (m + k) = List.replicate (m + k) x ∧ (splice cur m (List.replicate k x)).length = cur.length := by
  refine ⟨?_, length_splice _ _ _ (by simpa using hm)⟩
  unfold splice
  rw [h, ← List.append_assoc, List.replicate_append_replicate, List.take_append_of_le_length (by simp), List.take_of_length_le (by simp)]

set_option maxHeartbeats 6400000 in
set_option maxRecDepth 100000 in
theorem repeat_any (v : Value) (x : Int) (n : Nat) (w : World) (h : Rd w w.heap.size v [vi x]) (hn : n ≤ 100000) :
    Calls Tryz.prog 49 #[v, .int .i64 (n : Nat)] w fun e w' => ∃ v', e = .returned v' ∧ Mine w' w.heap.size 3 v' (List.replicate n (vi x)) ∧ Grew w w' := by
  obtain ⟨A, k, c, rfl, hk, hc⟩ := h.form
  obtain ⟨ad, u, rfl, hadb, hu, hcell⟩ := h.at_ (j := 0) (by simp)
  obtain rfl : vi x = u := by simpa using hu
  obtain rfl : k = 1 := by simpa using hk
  obtain ⟨zs, hzl, hmk⟩ := make_ints n (by omega)
  have HM := Lib.hid (mul_any n (by omega))
  have HB := Lib.hid (Box.new w 3 zs.toArray)
  have HC := Lib.hid (show ∀ w', Grew w w' → ∀ j v, (List.replicate (min 1 n) (vi x))[j]? = some v → w'.cell? (ad.add j) = some v from fun w' g j v hv => by
    have hj : j < min 1 n := by simpa using (List.getElem?_eq_some_iff.1 hv).1
    obtain rfl : j = 0 := by omega
    obtain rfl : vi x = v := by
      rw [List.getElem?_replicate, if_pos hj] at hv
      injection hv
    exact (World.cell?_of_block (by rw [block_add]; exact g.block _ hadb (fun e => e))).trans hcell)
  have HZ := Lib.hid hzl
  have t0 : decide ((n : Int) < 0) = false := by simp
  have t1 : decide ((9223372036854775807 : Int) < (n : Int)) = false := by simp; omega
  clear h hu hk hcell hzl
  go_enter Tryz.func49, Tryz.ntmps49
  go_wp2_with fail
  refine (HM.out _).mono ?_
  rintro e w' ⟨rfl, hw'⟩
  rw [hw']
  clear hw' w'
  have hlc : (List.replicate (min 1 n) (vi x)).length = min 1 n := by simp
  have hg1 : Grew w (w.alloc (.cells zs.toArray 3)) := (Grew.refl w).alloc _
  go_upto_region 7 with fail
  have hB := HB.out
  generalize w.alloc (.cells zs.toArray 3) = w1 at *
  unfold Box at hB
  go_upto_region 8 with ((refine wpList_copy_splice rfl (.tmp 31) (.tmp 32) 22 22 rfl 3 Tryz.underlying22 (by kernel_rfl) (some ⟨w.heap.size, 0, none⟩) (some ad) n n 1 c rfl rfl w.heap.size 0 zs 3 hB (List.replicate (min 1 n) (vi x)) hlc (fun _ => ⟨rfl, ad, rfl, HC.out _ hg1⟩) (by rw [hlc, HZ.out]; omega) (fun v hv => by rw [List.eq_of_mem_replicate hv]; rfl) w.heap.size w hg1.below (Nat.le_refl _) ?_); intro w4 hg4 hb4)
  have hG4 : Grew w w4 := Grew.of_below hb4
  obtain ⟨hs1, hs2⟩ := splice_rep (x := vi x) (cur := zs) (m := 0) (k := min 1 n) (by simp) (by rw [HZ.out]; omega)
  have HB4 := Lib.hid (show Box w4 w.heap.size 3 (splice zs 0 (List.replicate (min 1 n) (vi x))).toArray from hg4.out)
  have HS1 := Lib.hid hs1
  have HS2 := Lib.hid (hs2.trans HZ.out)
  generalize splice zs 0 (List.replicate (min 1 n) (vi x)) = cur0 at *
  clear hg4 hb4 hs1 hs2 hB hg1 HB HC HZ hmk HM
  go_loopw [8] (fun i wr => ∃ (m : Nat) (cur : List Value), m ≤ n ∧ (n = 0 ∨ 1 ≤ m) ∧ i = .int .i64 m ∧ cur.length = n ∧ cur.take m = List.replicate m (vi x) ∧ Box wr w.heap.size 3 cur.toArray ∧ Grew w wr) (fun i _ => n - (intOf i).toNat)
  case atStart => exact ⟨min 1 n, cur0, by omega, by omega, by first | (rw [hlc]; rfl) | simp | (simp [goInt]; omega), HS2.out, by simpa using HS1.out, HB4.out, hG4⟩
  case round =>
    clear HS1 HS2 HB4 hG4 cur0 hlc
    obtain ⟨m, cur, hm, hm1, rfl, hcl, hct, hb, hG⟩ := hrel
    by_cases hlt : m < n
    · have hm1' : 1 ≤ m := by omega
      have HL := Lib.hid hcl
      have HT := Lib.hid hct
      have hlr : (List.replicate (min m (n - m)) (vi x)).length = Nat.min m (n - m) := by simp
      have hcm : ∀ j v, (List.replicate (min m (n - m)) (vi x))[j]? = some v → wr.cell? ⟨w.heap.size, j, none⟩ = some v := fun j v hv => by
        have hj : j < min m (n - m) := by simpa using (List.getElem?_eq_some_iff.1 hv).1
        have hv' : vi x = v := by
          rw [List.getElem?_replicate, if_pos hj] at hv
          injection hv
        rw [hb.cell, List.getElem?_toArray]
        have h2 : (cur.take m)[j]? = some (vi x) := by rw [hct, List.getElem?_replicate, if_pos (by omega)]
        rw [List.getElem?_take, if_pos (by omega)] at h2
        rw [h2, hv']
      have HCM := Lib.hid hcm
      obtain ⟨hs1, hs2⟩ := splice_rep (x := vi x) (cur := cur) (m := m) (k := min m (n - m)) hct (by omega)
      have HS1 := Lib.hid hs1
      have HS2 := Lib.hid (hs2.trans hcl)
      have HB := Lib.hid hb
      have i1 : (0 : Int) ≤ (m : Int) := by omega
      have i2 : (m : Int) ≤ (n : Int) := by omega
      clear hcl hct hcm hs1 hs2 hb hm1
      have hnm : ¬ (n = m) := by omega
      have hn0 : ¬ (n = 0) := by omega
      have hgd : Grew w wr.drew := Keeps.drew hG
      have HG := Lib.hid hgd.below
      have s1 : IntKind.i64.wrap ((m : Int) + ((m.min (n - m) : Nat) : Int)) = (m : Int) + ((m.min (n - m) : Nat) : Int) := IntWalk.i64_in _ (by have : m.min (n - m) ≤ m := Nat.min_le_left _ _; omega)
      go_upto_region 9 with fail
      go_region_law ((refine step_copy_splice rfl (.tmp 41) (.tmp 44) 22 22 rfl 3 Tryz.underlying22 (by kernel_rfl) (some ⟨w.heap.size, m, none⟩) (some ⟨w.heap.size, 0, none⟩) (n - m) (n - m) m n (by simp [Act.eval, Act.put]) (by simp [Act.eval, Act.put]) w.heap.size m cur 3 HB.out (List.replicate (min m (n - m)) (vi x)) hlr (fun _ => ⟨rfl, _, rfl, fun j v hv => by rw [show (⟨w.heap.size, 0, none⟩ : Addr).add j = ⟨w.heap.size, j, none⟩ by unfold Addr.add; split <;> simp_all]; exact HCM.out j v hv⟩) (by rw [hlr, HL.out]; show m + min m (n - m) ≤ n; omega) (fun v hv => by rw [List.eq_of_mem_replicate hv]; rfl) w.heap.size w HG.out (Nat.le_refl _) ?_); intro w5 hg5 hb5)
      dsimp [Act.put]
      simp only [List.setIfInBounds_toArray, List.set_cons_zero, List.set_cons_succ]
      go_wp2_with fail
      go_roundw
      case rel =>
        refine ⟨m + min m (n - m), _, by omega, by omega, ?_, HS2.out, HS1.out, hg5.out, Grew.of_below hb5⟩
        show Value.int .i64 _ = Value.int .i64 _
        congr 1
      case measure => simp [intOf]; rw [show m.min (n - m) = min m (n - m) from rfl]; omega
    · obtain rfl : m = n := by omega
      go_wp2_with fail
      go_ret
      exact ⟨_, rfl, by
        have := Mine.mk' (xs := List.replicate m (vi x)) (cap := m) (Nat.le_refl _) hb (by simp) (by unfold maxLen; omega) (by simpa using hcl) (by simpa using hct)
        simpa using this, hG⟩
end Go.Proofs.YtgkmfblmkfclbaaGreatDoor
