/- The law CodecRound, walked: it returns true and leaves what was there. -/
import Derived.Test.YtoojacpkbmgaeaaDoorDecode
import Derived.Test.YtoojacpkbmgaeaaDoorClaims
import Derived.Test.YtoojacpkbmgaeaaDoorSameC
namespace Go.Proofs.YtoojacpkbmgaeaaDoor
open Go.RowKit Pl

theorem pack_cbits_len (l : List Clm) (h : l.length ≤ 4096) : (pack (cbits l)).length ≤ 200000 := by
  have := cbits_length l
  rw [pack_length]; omega
theorem same_enc {a b : List Clm} (ha : ∀ c ∈ a, okC c) (hl : a.length ≤ 9) (hb : ∀ c ∈ b, okC c) (hm : b.length ≤ 9) : decide (pack (cbits a) = pack (cbits b)) = decide (a = b) := by
  rw [Bool.eq_iff_iff]
  simp only [decide_eq_true_eq]
  exact ⟨fun e => pack_cbits_inj ha (by omega) hb (by omega) e, fun e => by rw [e]⟩

set_option maxHeartbeats 6400000 in
set_option maxRecDepth 100000 in
theorem codecRound_walk (v0 v1 : Value) (l m : List Int) (w : World) (h0 : Rd w w.heap.size v0 (l.map vi)) (hi : ∀ x ∈ l, I64 x) (hl : l.length ≤ 1000000000000000) (h1 : Rd w w.heap.size v1 (m.map vi)) (hj : ∀ x ∈ m, I64 x) (hm : m.length ≤ 1000000000000000) (ht : Tab w w.heap.size) :
    Calls Tryd.prog 10 #[v0, v1] w fun e w' => e = .returned (.bool true) ∧ Grew w w' := by
  have HC := Lib.hid (claims_any v0 l w h0 hi hl)
  have HC2 := Lib.hid (fun (w' : World) (hg : Grew w w') => claims_any v1 m w' ((h1.grew (Nat.le_refl _) hg).more hg.size) hj hm)
  have HT := Lib.hid ht
  clear h0 hi h1 hj ht
  go_enter Tryd.func10, Tryd.ntmps10
  go_wp2_with fail
  refine HC.out.mono ?_
  rintro e w2 ⟨va, a, rfl, k1, k2, k3, k4⟩
  have HC3 := Lib.hid (HC2.out w2 k4)
  have K2 := Lib.hid k2
  clear HC HC2 k2
  go_wp2_with fail
  refine HC3.out.mono ?_
  rintro e w3 ⟨vbb, b, rfl, m1, m2, m3, m4⟩
  have M2 := Lib.hid m2
  have hG3 := k4.trans m4
  have a3 := k1.grew m4
  clear HC3 m2 k1 k4 m4
  have HE1 := Lib.hid (encode_any va a w3 a3.rd (by omega) (HT.out.on hG3))
  go_wp2_with fail
  refine HE1.out.mono ?_
  rintro e w4 ⟨p1, ⟨-, vx, rfl, p2⟩ | ⟨p2, -⟩⟩
  rotate_left
  · exact absurd (encE_ok (by omega) K2.out) p2
  have hG4 := hG3.trans p1
  have a4 := a3.grew p1
  have b4 := m1.grew p1
  clear HE1 p1 a3 m1 hG3
  have HE2 := Lib.hid (encode_any vbb b w4 b4.rd (by omega) (HT.out.on hG4))
  go_wp2_with fail
  refine HE2.out.mono ?_
  rintro e w5 ⟨q1, ⟨-, vy, rfl, q2⟩ | ⟨q2, -⟩⟩
  rotate_left
  · exact absurd (encE_ok (by omega) M2.out) q2
  have hG5 := hG4.trans q1
  have a5 := a4.grew q1
  have b5 := b4.grew q1
  have x5 := p2.grew q1
  have hxl := pack_cbits_len a (by omega)
  have hyl := pack_cbits_len b (by omega)
  clear HE2 q1 a4 b4 p2 hG4
  have HD := Lib.hid (decode_any vx (pack (cbits a)) w5 x5.rd (pack_bytes _) (by omega) (HT.out.on hG5))
  rw [decode_enc a K2.out (by omega)] at HD
  go_wp2_with fail
  refine HD.out.mono ?_
  rintro e w6 ⟨r1, vd, rfl, r2⟩
  have hG6 := hG5.trans r1
  have a6 := a5.grew r1
  have b6 := b5.grew r1
  have x6 := x5.grew r1
  have y6 := q2.grew r1
  clear HD r1 a5 b5 x5 q2 hG5
  have HS := Lib.hid (sameC_any va vd a a w6 a6.rd r2.rd (by omega) (by omega))
  rw [show decide (a = a) = true from by simp] at HS
  go_wp2_with fail
  refine HS.out.mono ?_
  rintro e w7 ⟨rfl, n7, h7⟩
  have g67 : Grew w6 w7 := by rw [h7]; exact (Grew.refl w6).drewN n7
  have hG7 := hG6.trans g67
  have a7 := a6.grew g67
  have b7 := b6.grew g67
  have x7 := x6.grew g67
  have y7 := y6.grew g67
  clear h7 HS g67 a6 b6 x6 y6 hG6 r2
  have HS2 := Lib.hid (sameBytes_any vx vy (pack (cbits a)) (pack (cbits b)) w7 x7.rd y7.rd (by omega) (by omega))
  rw [same_enc K2.out k3 M2.out m3] at HS2
  go_wp2_with fail
  refine HS2.out.mono ?_
  rintro e w8 ⟨rfl, n8, h8⟩
  have g78 : Grew w7 w8 := by rw [h8]; exact (Grew.refl w7).drewN n8
  have hG8 := hG7.trans g78
  have a8 := a7.grew g78
  have b8 := b7.grew g78
  clear h8 HS2 g78 a7 b7 x7 y7 hG7
  have HS3 := Lib.hid (sameC_any va vbb a b w8 a8.rd b8.rd (by omega) (by omega))
  generalize decide (a = b) = same at *
  go_wp2_with fail
  refine HS3.out.mono ?_
  rintro e w9 ⟨rfl, n9, h9⟩
  have g89 : Grew w8 w9 := by rw [h9]; exact (Grew.refl w8).drewN n9
  have hG9 := hG8.trans g89
  clear h9 HS3 g89 a8 b8 hG8
  have tss : (same == same) = true := by simp
  have HL := Lib.hid (lives_any w9 (HT.out.on hG9))
  go_wp2_with fail
  refine HL.out.mono ?_
  rintro e wa ⟨rfl, s1⟩
  go_wp2_with fail
  go_ret
  exact ⟨rfl, hG9.trans s1⟩
end Go.Proofs.YtoojacpkbmgaeaaDoor
