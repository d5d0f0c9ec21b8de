/- The examples of the chapter hold. -/
import Derived.Test.YtggnifejlheebaaDoorCodecEnvelopeP13
namespace Go.Proofs.YtggnifejlheebaaDoor
open Go.RowKit Pl

theorem Tab.more {w : World} {B B' : Nat} (h : Tab w B) (hB : B ≤ B') : Tab w B' := ⟨Nat.lt_of_lt_of_le h.1 hB, h.2⟩
theorem Tab.on {w w' : World} (h : Tab w w.heap.size) (hk : Grew w w') : Tab w' w'.heap.size := (h.grew hk).more hk.size
/- a row that was just laid -/
theorem Rd.laid (w : World) (t : TypeId) (xs : List Value) : Rd (w.alloc (.cells xs.toArray t)) (w.heap.size + 1) (.slice (some ⟨w.heap.size, 0, none⟩) xs.length xs.length) xs := by
  refine ⟨_, _, rfl, Nat.le_refl _, fun _ => ⟨_, rfl, by show w.heap.size < w.heap.size + 1; omega, fun j u hu => ?_⟩⟩
  have e1 : (⟨w.heap.size, 0, none⟩ : Addr).add j = ⟨w.heap.size, j, none⟩ := by unfold Addr.add; split <;> simp_all
  rw [e1, (Box.new w t xs.toArray).cell]
  simpa using hu
theorem ex_words : dwords [[98], [97], [98]] = [[98], [97]] := by decide
theorem ex_idx : didx [[98], [97], [98]] = [0, 1, 0] := by decide
theorem ex_read : readInts [154, 169, 64] = some [5, 7, 9] := by decide +kernel
theorem ex_nil : pack (ints []) = [0] := by decide +kernel
theorem ex_ints : pack (ints [5, 7, 9]) = [154, 169, 64] := by decide +kernel

set_option maxHeartbeats 3200000 in
set_option maxRecDepth 100000 in
theorem lives_any (w : World) (ht : Tab w w.heap.size) :
    Calls Tryd.prog 10 #[] w fun e w' => e = .returned (.bool true) ∧ Grew w w' := by
  have r1 : Rd (w.alloc (.cells #[.string ⟨#[98]⟩, .string ⟨#[97]⟩, .string ⟨#[98]⟩] 9)) (w.heap.size + 1) (.slice (some ⟨w.heap.size, 0, none⟩) 3 3) ([[98], [97], [98]].map vs) := Rd.laid w _ _
  have hG1 : Grew w (w.alloc (.cells #[.string ⟨#[98]⟩, .string ⟨#[97]⟩, .string ⟨#[98]⟩] 9)) := (Grew.refl w).alloc _
  have HD := Lib.hid (dict_any _ _ _ (r1.more (by simp)) (by simp) (by intro s hs; simp at hs; rcases hs with rfl | rfl | rfl <;> simp))
  have HG1 := Lib.hid hG1
  clear r1 hG1
  go_enter Tryd.func10, Tryd.ntmps10
  go_wp2_with fail
  refine HD.out.mono ?_
  rintro e w2 ⟨v1, v2, rfl, k1, k2, k3⟩
  rw [ex_words] at k1
  rw [ex_idx] at k2
  have hG2 := HG1.out.trans k3
  have r2 : Rd (w2.alloc (.cells #[.int .u8 154, .int .u8 169, .int .u8 64] 5)) (w2.heap.size + 1) (.slice (some ⟨w2.heap.size, 0, none⟩) 3 3) ([154, 169, 64].map vb) := Rd.laid w2 _ _
  have ht2 := ht.on (hG2.alloc (.cells #[.int .u8 154, .int .u8 169, .int .u8 64] 5))
  have HR := Lib.hid (readInts_any _ [154, 169, 64] _ (r2.more (by simp)) (by intro x hx; simp at hx; omega) (by simp) ht2)
  rw [ex_read] at HR
  clear r2 ht2 HD
  go_wp2_with fail
  refine HR.out.mono ?_
  rintro e w3 ⟨m1, v3, rfl, m2⟩
  have hG3 := (hG2.alloc _).trans m1
  have ht3 := ht.on hG3
  have HI := Lib.hid (cints_any (.slice none 0 0) [] w3 ⟨none, 0, rfl, Nat.le_refl _, fun h => absurd h (by simp)⟩ (by simp) (by simp) ht3)
  rw [ex_nil] at HI
  clear HR
  go_wp2_with fail
  refine HI.out.mono ?_
  rintro e w4 ⟨v4, rfl, p1, p2⟩
  have hG4 := hG3.trans p2
  have r4 : Rd (w4.alloc (.cells #[.int .u8 0] 5)) (w4.heap.size + 1) (.slice (some ⟨w4.heap.size, 0, none⟩) 1 1) ([0].map vb) := Rd.laid w4 _ _
  have HS := Lib.hid (sameBytes_any v4 _ [0] [0] _ ((p1.alloc (.cells #[.int .u8 0] 5)).rd) (r4.more (by simp)) (by simp) (by simp))
  rw [show decide (([0] : List Nat) = [0]) = true from rfl] at HS
  clear r4 HI
  go_wp2_with fail
  refine HS.out.mono ?_
  rintro e w5 ⟨rfl, n5, h5⟩
  have g45 : Grew w4 w5 := by rw [h5]; exact ((Grew.refl w4).alloc _).drewN n5
  have hG5 := hG4.trans g45
  clear h5 HS
  have m25 := (m2.grew p2).grew g45
  -- SameInts(c, 5 7 9)
  have r5 : Rd (w5.alloc (.cells #[.int .i64 5, .int .i64 7, .int .i64 9] 3)) (w5.heap.size + 1) (.slice (some ⟨w5.heap.size, 0, none⟩) 3 3) ([5, 7, 9].map vi) := Rd.laid w5 _ _
  have HS5 := Lib.hid (sameInts_any v3 _ [5, 7, 9] [5, 7, 9] _ ((m25.alloc (.cells #[.int .i64 5, .int .i64 7, .int .i64 9] 3)).rd) (r5.more (by simp)) (by simp) (by simp))
  rw [show decide (([5, 7, 9] : List Int) = [5, 7, 9]) = true from rfl] at HS5
  clear r5
  go_wp2_with fail
  refine HS5.out.mono ?_
  rintro e w6 ⟨rfl, n6, h6⟩
  have g56 : Grew w5 w6 := by rw [h6]; exact ((Grew.refl w5).alloc _).drewN n6
  have hG6 := hG5.trans g56
  clear h6 HS5
  have m26 := m25.grew g56
  -- Ints(c)
  have HI6 := Lib.hid (cints_any v3 [5, 7, 9] w6 m26.rd (by intro x hx; simp at hx; unfold I64; omega) (by simp) (ht.on hG6))
  rw [ex_ints] at HI6
  go_wp2_with fail
  refine HI6.out.mono ?_
  rintro e w7 ⟨v7, rfl, q1, q2⟩
  have hG7 := hG6.trans q2
  clear HI6
  have r7 : Rd (w7.alloc (.cells #[.int .u8 154, .int .u8 169, .int .u8 64] 5)) (w7.heap.size + 1) (.slice (some ⟨w7.heap.size, 0, none⟩) 3 3) ([154, 169, 64].map vb) := Rd.laid w7 _ _
  have HS7 := Lib.hid (sameBytes_any v7 _ [154, 169, 64] [154, 169, 64] _ ((q1.alloc (.cells #[.int .u8 154, .int .u8 169, .int .u8 64] 5)).rd) (r7.more (by simp)) (by simp) (by simp))
  rw [show decide (([154, 169, 64] : List Nat) = [154, 169, 64]) = true from rfl] at HS7
  clear r7
  go_wp2_with fail
  refine HS7.out.mono ?_
  rintro e w8 ⟨rfl, n8, h8⟩
  have g78 : Grew w7 w8 := by rw [h8]; exact ((Grew.refl w7).alloc _).drewN n8
  have hG8 := hG7.trans g78
  clear h8 HS7
  have k18 := (((((k1.grew ((Grew.refl w2).alloc _)).grew m1).grew p2).grew (g45.trans g56)).grew q2).grew g78
  have k28 := (((((k2.grew ((Grew.refl w2).alloc _)).grew m1).grew p2).grew (g45.trans g56)).grew q2).grew g78
  -- SameTexts(words, b a)
  have r8 : Rd (w8.alloc (.cells #[.string ⟨#[98]⟩, .string ⟨#[97]⟩] 9)) (w8.heap.size + 1) (.slice (some ⟨w8.heap.size, 0, none⟩) 2 2) ([[98], [97]].map vs) := Rd.laid w8 _ _
  have HS8 := Lib.hid (sameTexts_any v1 _ [[98], [97]] [[98], [97]] _ ((k18.alloc (.cells #[.string ⟨#[98]⟩, .string ⟨#[97]⟩] 9)).rd) (r8.more (by simp)) (by simp) (by simp))
  rw [show decide (([[98], [97]] : List Str) = [[98], [97]]) = true from rfl] at HS8
  clear r8
  go_wp2_with fail
  refine HS8.out.mono ?_
  rintro e w9 ⟨rfl, n9, h9⟩
  have g89 : Grew w8 w9 := by rw [h9]; exact ((Grew.refl w8).alloc _).drewN n9
  have hG9 := hG8.trans g89
  clear h9 HS8
  have k29 := k28.grew g89
  -- SameInts(l, 0 1 0)
  have r9 : Rd (w9.alloc (.cells #[.int .i64 0, .int .i64 1, .int .i64 0] 3)) (w9.heap.size + 1) (.slice (some ⟨w9.heap.size, 0, none⟩) 3 3) ([0, 1, 0].map vi) := Rd.laid w9 _ _
  have HS9 := Lib.hid (sameInts_any v2 _ [0, 1, 0] [0, 1, 0] _ ((k29.alloc (.cells #[.int .i64 0, .int .i64 1, .int .i64 0] 3)).rd) (r9.more (by simp)) (by simp) (by simp))
  rw [show decide (([0, 1, 0] : List Int) = [0, 1, 0]) = true from rfl] at HS9
  clear r9
  go_wp2_with fail
  refine HS9.out.mono ?_
  rintro e wa ⟨rfl, na, ha⟩
  have g9a : Grew w9 wa := by rw [ha]; exact ((Grew.refl w9).alloc _).drewN na
  have hGa := hG9.trans g9a
  clear ha HS9
  go_wp2_with fail
  go_ret
  exact ⟨rfl, hGa⟩
end Go.Proofs.YtggnifejlheebaaDoor
