/- The reference: streams of bits. -/
import Derived.Test.YtoojacpkbmgaeaaDoorRefA
namespace Go.Proofs.YtoojacpkbmgaeaaDoor
open Go.RowKit Pl

/- what a fresh row may become -/
def Fresh (w : World) (v : Value) : Prop := ∀ k, v.ownBlock = some k → w.heap.size ≤ k
theorem Mine.fresh {w w0 : World} {e : TypeId} {v : Value} {xs : List Value} (h : Mine w w0.heap.size e v xs) : ∀ k, v.ownBlock = some k → w0.heap.size ≤ k := fun k hk => (h.lt k hk).1
/- an append on a row of the call's own keeps what was there -/
theorem Grew.app {w0 w w' : World} {e : TypeId} {v : Value} {xs : List Value} (h : Grew w0 w) (hm : Mine w w0.heap.size e v xs) (hk : Keeps (fun i => v.ownBlock = some i) w w') : Grew w0 w' :=
  Keeps.then_ h hk fun i hi e => by have := (hm.lt i e).1; omega
theorem Grew.alloc {w0 w : World} (h : Grew w0 w) (o : Obj) : Grew w0 (w.alloc o) := Keeps.alloc h o
theorem Grew.drew {w0 w : World} (h : Grew w0 w) : Grew w0 w.drew := Keeps.drew h
theorem Grew.drewN {w0 w : World} (h : Grew w0 w) (n : Nat) : Grew w0 (w.drewN n) := Keeps.drewN h n
theorem Mine.slice {w : World} {base : Nat} {e : TypeId} {v : Value} {xs : List Value} (h : Mine w base e v xs) : ∃ A n c, v = .slice A n c ∧ n = xs.length := by
  rcases h.form with ⟨rfl, rfl⟩ | ⟨g, cap, cur, rfl, _⟩
  · exact ⟨_, _, _, rfl, rfl⟩
  · exact ⟨_, _, _, rfl, rfl⟩

set_option maxHeartbeats 1600000 in
set_option maxRecDepth 100000 in
theorem runary_any (n : Nat) (w : World) (hn : n ≤ 64) :
    Calls Tryd.prog 105 #[.int .i64 (n : Nat)] w fun e w' => ∃ v', e = .returned v' ∧ Mine w' w.heap.size 4 v' ((un n).map vbo) ∧ Grew w w' := by
  go_enter Tryd.func105, Tryd.ntmps105
  go_wp2_with fail
  go_loopw [3, 4] (fun a i wr => ∃ (j m : Nat) (A : Option Addr) (c : Nat), j ≤ n ∧ i = .int .i64 j ∧ a = .slice A m c ∧ Mine wr w.heap.size 4 (.slice A m c) ((List.replicate j true).map vbo) ∧ Grew w wr) (fun _ i _ => n - (intOf i).toNat)
  case atStart => exact ⟨0, 0, none, 0, by omega, rfl, rfl, Mine.nil _ _ _, Grew.refl _⟩
  case round =>
    obtain ⟨j, m, A, c, hj, rfl, rfl, hM, hG⟩ := hrel
    have hsz := hG.size
    by_cases hlt : j < n
    · have t1 : decide ((j : Int) < (n : Int)) = true := by simp; omega
      have t2 : decide ((j : Int) < 65536) = true := by rw [decide_eq_true_eq]; omega
      go_wp2_with (at_builtin; refine app_one slBool rfl (.tmp 14) (.tmp 15) rfl rfl (hM.alloc _) wr.heap.size 1 (.bool true) rfl (Nat.le_refl _) (by simp) (by simp) rfl (by simp; omega) (by simp; omega) ?k)
      case k =>
      intro r cap w1 hM1 hk1 hr hbr hlr
      have hG1 : Grew w w1 := (hG.alloc _).app (hM.alloc _) hk1
      have hM2 : Mine w1 w.heap.size 4 (.slice (some ⟨r, 0, none⟩) (j + 1) cap) ((List.replicate (j + 1) true).map vbo) := by
        rw [List.replicate_succ']; simpa [vbo] using hM1
      clear hM1 hk1 hM
      go_wp2_with fail
      go_roundw
      case rel => exact ⟨j + 1, _, _, _, by omega, by go_num, rfl, hM2, hG1⟩
      case measure => simp [intOf]; omega
    · obtain rfl : j = n := by omega
      have t1 : decide ((j : Int) < (j : Int)) = false := by simp
      go_wp2_with (at_builtin; refine app_one slBool rfl (.tmp 17) (.tmp 18) rfl rfl (hM.alloc _) wr.heap.size 1 (.bool false) rfl (Nat.le_refl _) (by simp) (by simp) rfl (by simp; omega) (by simp; omega) ?k)
      case k =>
      intro r cap w1 hM1 hk1 hr hbr hlr
      have hG1 : Grew w w1 := (hG.alloc _).app (hM.alloc _) hk1
      go_wp2_with fail
      go_ret
      exact ⟨_, rfl, by simpa [un, vbo] using hM1, hG1⟩

set_option maxHeartbeats 1600000 in
set_option maxRecDepth 100000 in
theorem rbits_any (z k : Nat) (w : World) (_ : z < 18446744073709551616) (hk : k ≤ 64) :
    Calls Tryd.prog 106 #[.int .u64 (z : Nat), .int .i64 (k : Nat)] w fun e w' => ∃ v', e = .returned v' ∧ Mine w' w.heap.size 4 v' ((bin z k).map vbo) ∧ Grew w w' := by
  have HC := Lib.hid (count_any k hk w)
  go_enter Tryd.func106, Tryd.ntmps106
  go_wp2_with (go_at_call 127; refine HC.out.mono ?_; rintro e w' ⟨rfl, rfl⟩)
  go_loopw [5, 6] (fun a i wr => ∃ (j m : Nat) (A : Option Addr) (c : Nat), j ≤ k ∧ i = .int .i64 ((k : Int) - 1 - j) ∧ a = .slice A m c ∧ Mine wr w.heap.size 4 (.slice A m c) (((bin z k).take j).map vbo) ∧ Grew w wr) (fun _ i _ => (intOf i + 1).toNat)
  case atStart => exact ⟨0, 0, none, 0, by omega, by simp, rfl, Mine.nil _ _ _, Grew.refl _⟩
  case round =>
    obtain ⟨j, m, A, c, hj, rfl, rfl, hM, hG⟩ := hrel
    have hsz := hG.size
    have hbl : (bin z k).length = k := bin_length z k
    have HBL := Lib.hid hbl
    clear hbl
    by_cases hlt : j < k
    · have hsn : (bin z k).take (j + 1) = (bin z k).take j ++ [z.testBit (k - 1 - j)] := by
        rw [List.take_add_one]; simp [bin, hlt]
      have hbit : (((z : Int) / 2 ^ (k - 1 - j)).tmod 2 == 1) = z.testBit (k - 1 - j) := by
        have e : ((z : Int) / 2 ^ (k - 1 - j)) = ((z / 2 ^ (k - 1 - j) : Nat) : Int) := by rw [Int.natCast_ediv, Int.natCast_pow]; rfl
        rw [e, Nat.testBit_eq_decide_div_mod_eq]
        have : z / 2 ^ (k - 1 - j) % 2 = 0 ∨ z / 2 ^ (k - 1 - j) % 2 = 1 := by omega
        rw [Int.tmod_eq_emod_of_nonneg (Int.natCast_nonneg _)]
        generalize z / 2 ^ (k - 1 - j) = q at *
        rcases this with h | h
        · rw [h]
          have : (q : Int) % 2 = 0 := by omega
          rw [this]; rfl
        · rw [h]
          have : (q : Int) % 2 = 1 := by omega
          rw [this]; rfl
      have HS := Lib.hid hsn
      have HB := Lib.hid hbit
      clear hsn hbit
      have hml : (((bin z k).take j).map vbo).length < 1099511627776 := by
        rw [List.length_map, List.length_take, HBL.out]; omega
      go_wp2_with (at_builtin; refine app_one slBool rfl (.tmp 14) (.tmp 21) rfl rfl (hM.alloc _) wr.heap.size 1 (.bool (((z : Int) / 2 ^ (k - 1 - j)).tmod 2 == 1)) rfl (Nat.le_refl _) (by simp) (by simp) rfl hml (by simp; omega) ?k)
      case k =>
      intro r cap w1 hM1 hk1 hr hbr hlr
      have hG1 : Grew w w1 := (hG.alloc _).app (hM.alloc _) hk1
      have hM2 : ∀ q, Mine w1 w.heap.size 4 (.slice (some ⟨r, 0, none⟩) q cap) (((bin z k).take j).map vbo ++ [.bool (((z : Int) / 2 ^ (k - 1 - j)).tmod 2 == 1)]) → Mine w1 w.heap.size 4 (.slice (some ⟨r, 0, none⟩) q cap) (((bin z k).take (j + 1)).map vbo) := by
        intro q hq
        rw [HS.out, List.map_append]
        rw [HB.out] at hq
        exact hq
      have HM2 := Lib.hid (hM2 _ (by simpa using hM1))
      clear hM1 hM2 hk1 hM hml
      go_wp2_with fail
      go_roundw
      case rel => exact ⟨j + 1, _, _, _, by omega, by go_num, rfl, HM2.out, hG1⟩
      case measure => simp [intOf]; omega
    · go_wp2_with fail
      go_ret
      exact ⟨_, rfl, by rw [List.take_of_length_le (by rw [HBL.out]; omega)] at hM; exact hM, hG⟩
end Go.Proofs.YtoojacpkbmgaeaaDoor
