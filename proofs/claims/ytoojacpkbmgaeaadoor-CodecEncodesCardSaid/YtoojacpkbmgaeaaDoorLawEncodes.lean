/- The law CodecEncodes, walked: it returns true and leaves what was there. -/
import Derived.Test.YtoojacpkbmgaeaaDoorRowG
import Derived.Test.YtoojacpkbmgaeaaDoorClaims
import Derived.Test.YtoojacpkbmgaeaaDoorREncode
namespace Go.Proofs.YtoojacpkbmgaeaaDoor
open Go.RowKit Pl

set_option maxHeartbeats 6400000 in
set_option maxRecDepth 100000 in
theorem codecEncodes_walk (v0 v1 : Value) (l : List Int) (raw : List Clm) (w : World) (h0 : Rd w w.heap.size v0 (l.map vi)) (hi : ∀ x ∈ l, I64 x) (hl : l.length ≤ 1000000000000000) (h1 : RdG w w.heap.size v1 raw) (ht : Tab w w.heap.size) :
    Calls Tryd.prog 7 #[v0, v1] w fun e w' => e = .returned (.bool true) ∧ Grew w w' := by
  have HC := Lib.hid (claims_any v0 l w h0 hi hl)
  obtain ⟨A, n, c, rfl, hn, hc⟩ := h1.form
  have HT := Lib.hid ht
  have key : ∃ m : Nat, m ≤ 3 ∧ m ≤ n ∧ ((m = n ∧ n ≤ 3) ∨ (m = 3 ∧ 3 < n)) ∧ RdG w w.heap.size (.slice A m c) (raw.take 3) ∧ (raw.take 3).length = m := by
    by_cases h3 : n ≤ 3
    · refine ⟨n, h3, Nat.le_refl _, .inl ⟨rfl, h3⟩, ?_, ?_⟩
      · rw [List.take_of_length_le (by omega)]; exact h1
      · rw [List.take_of_length_le (by omega)]; exact hn.symm
    · exact ⟨3, Nat.le_refl _, by omega, .inr ⟨rfl, by omega⟩, h1.take (by omega), by rw [List.length_take]; omega⟩
  obtain ⟨m, hm3, hmn, hcase, h2, hml⟩ := key
  have H2 := Lib.hid h2
  have HML := Lib.hid hml
  have hA : 0 < n → ∃ ad, A = some ad := fun h => h1.some_ (by omega)
  have HA := Lib.hid hA
  clear h0 hi h1 ht hn h2 hml hA
  go_enter Tryd.func7, Tryd.ntmps7
  go_wp2_with fail
  refine HC.out.mono ?_
  rintro e w2 ⟨va, a, rfl, k1, k2, k3, k4⟩
  obtain ⟨Aa, na, ca, rfl, -⟩ := k1.slice
  have r2 := H2.out.grew (Nat.le_refl _) k4
  have hs2 := k4.size
  have hln : a.length + (raw.take 3).length ≤ 1099511627776 := by rw [HML.out]; omega
  clear HC
  have fin : (a ++ raw.take 3).length ≤ 12 := by rw [List.length_append, HML.out]; omega
  have HK2 := Lib.hid k2
  clear k2
  rcases hcase with ⟨rfl, hn3⟩ | ⟨rfl, hn3⟩
  · have t0 : ¬ ((3 : Int) < (m : Int)) := by omega
    go_wp2_with (at_builtin; refine app_anyG rfl (.tmp 12) (.tmp 17) rfl rfl k1 rfl r2 hln hs2 ?_; intro A' m' cap w3 hm' hM hk hr)
    have hG3 := Grew.appC k4 k1 hk
    generalize a ++ raw.take 3 = cs at *
    have HE1 := Lib.hid (encode_any _ cs w3 hM.rd (by omega) (HT.out.on hG3))
    clear hk hr k1 k4 r2 hm' HA HK2
    refine HE1.out.mono ?_
    rintro e w4 hp4
    obtain ⟨vx, rfl, p1, p2⟩ := hp4.all
    obtain ⟨Ax, nx, cx, rfl, -⟩ := p1.slice
    have hG4 := hG3.trans p2
    have c4 := hM.grew p2
    have HE2 := Lib.hid (rencode_any _ cs w4 c4.rd (by omega))
    clear hp4 HE1 p2 hM hG3
    go_wp2_with fail
    refine HE2.out.mono ?_
    rintro e w5 hp5
    obtain ⟨vy, rfl, q1, q2⟩ := hp5.all
    obtain ⟨Ay, ny, cy, rfl, hny⟩ := q1.slice
    rw [List.length_map] at hny
    have HNY := Lib.hid hny
    have hG5 := hG4.trans q2
    have c5 := c4.grew q2
    have x5 := p1.grew q2
    have hbl := encB_len cs
    have tE : (encE cs == encE cs) = true := by simp
    have HS := Lib.hid (sameBytes_any _ _ (encB cs) (encB cs) w5 x5.rd q1.rd (by omega) (by omega))
    rw [show decide (encB cs = encB cs) = true from by simp] at HS
    clear hp5 HE2 q2 c4 p1 hG4 hny
    go_wp2_with fail
    refine HS.out.mono ?_
    rintro e w6 ⟨rfl, n6, h6⟩
    have g56 : Grew w5 w6 := by rw [h6]; exact (Grew.refl w5).drewN n6
    have hG6 := hG5.trans g56
    have c6 := c5.grew g56
    have HZ := Lib.hid (size_any _ cs w6 c6.rd (by omega) (HT.out.on hG6))
    rw [← HNY.out] at HZ
    clear h6 HS g56 c5 x5 hG5 q1
    go_wp2_with fail
    refine HZ.out.mono ?_
    rintro e w7 ⟨rfl, r1⟩
    have hG7 := hG6.trans r1
    have tN : ((ny : Int) == (ny : Int)) = true := by simp
    have HL := Lib.hid (lives_any w7 (HT.out.on hG7))
    clear HZ c6
    go_wp2_with fail
    refine HL.out.mono ?_
    rintro e w8 ⟨rfl, s1⟩
    go_wp2_with fail
    go_ret
    exact ⟨rfl, hG7.trans s1⟩
  · have t0 : (3 : Int) < (n : Int) := by omega
    obtain ⟨ad, rfl⟩ := HA.out (by omega)
    go_wp2_with (at_builtin; refine app_anyG rfl (.tmp 12) (.tmp 17) rfl rfl k1 rfl r2 hln hs2 ?_; intro A' m' cap w3 hm' hM hk hr)
    have hG3 := Grew.appC k4 k1 hk
    generalize a ++ raw.take 3 = cs at *
    have HE1 := Lib.hid (encode_any _ cs w3 hM.rd (by omega) (HT.out.on hG3))
    clear hk hr k1 k4 r2 hm' HA HK2
    refine HE1.out.mono ?_
    rintro e w4 hp4
    obtain ⟨vx, rfl, p1, p2⟩ := hp4.all
    obtain ⟨Ax, nx, cx, rfl, -⟩ := p1.slice
    have hG4 := hG3.trans p2
    have c4 := hM.grew p2
    have HE2 := Lib.hid (rencode_any _ cs w4 c4.rd (by omega))
    clear hp4 HE1 p2 hM hG3
    go_wp2_with fail
    refine HE2.out.mono ?_
    rintro e w5 hp5
    obtain ⟨vy, rfl, q1, q2⟩ := hp5.all
    obtain ⟨Ay, ny, cy, rfl, hny⟩ := q1.slice
    rw [List.length_map] at hny
    have HNY := Lib.hid hny
    have hG5 := hG4.trans q2
    have c5 := c4.grew q2
    have x5 := p1.grew q2
    have hbl := encB_len cs
    have tE : (encE cs == encE cs) = true := by simp
    have HS := Lib.hid (sameBytes_any _ _ (encB cs) (encB cs) w5 x5.rd q1.rd (by omega) (by omega))
    rw [show decide (encB cs = encB cs) = true from by simp] at HS
    clear hp5 HE2 q2 c4 p1 hG4 hny
    go_wp2_with fail
    refine HS.out.mono ?_
    rintro e w6 ⟨rfl, n6, h6⟩
    have g56 : Grew w5 w6 := by rw [h6]; exact (Grew.refl w5).drewN n6
    have hG6 := hG5.trans g56
    have c6 := c5.grew g56
    have HZ := Lib.hid (size_any _ cs w6 c6.rd (by omega) (HT.out.on hG6))
    rw [← HNY.out] at HZ
    clear h6 HS g56 c5 x5 hG5 q1
    go_wp2_with fail
    refine HZ.out.mono ?_
    rintro e w7 ⟨rfl, r1⟩
    have hG7 := hG6.trans r1
    have tN : ((ny : Int) == (ny : Int)) = true := by simp
    have HL := Lib.hid (lives_any w7 (HT.out.on hG7))
    clear HZ c6
    go_wp2_with fail
    refine HL.out.mono ?_
    rintro e w8 ⟨rfl, s1⟩
    go_wp2_with fail
    go_ret
    exact ⟨rfl, hG7.trans s1⟩
end Go.Proofs.YtoojacpkbmgaeaaDoor
