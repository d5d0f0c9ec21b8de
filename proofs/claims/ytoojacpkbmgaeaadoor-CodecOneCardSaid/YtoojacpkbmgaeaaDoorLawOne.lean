/- The law CodecOne, walked: it returns true and leaves what was there. -/
import Derived.Test.YtoojacpkbmgaeaaDoorDecode
import Derived.Test.YtoojacpkbmgaeaaDoorLawInts
namespace Go.Proofs.YtoojacpkbmgaeaaDoor
open Go.RowKit Pl

theorem readInts_some {bs : List Nat} {l : List Int} (hb : Bytes bs) (h : readInts bs = some l) : pack (ints l) = bs ∧ ∀ x ∈ l, I64 x := by
  have hr := h
  rw [readInts_eq_ref bs hb] at hr
  unfold readInts at h
  unfold refReadInts at hr
  cases hp : parse (bitsOf bs) with
  | none => rw [hp] at h; cases h
  | some p =>
    obtain ⟨n, t⟩ := p
    rw [hp] at h hr
    simp only at h hr
    split at hr
    · cases hr
    · split at h
      · cases h
      · unfold finRef at hr
        cases hq : reads n.toNat 0 0 t with
        | none => rw [hq] at hr; cases hr
        | some q =>
          obtain ⟨l', r⟩ := q
          rw [hq] at hr
          simp only at hr
          obtain ⟨e1, e2, e3, e4⟩ := reads_some hq
          split at hr
          · rename_i hbs
            injection hr with hr
            subst hr
            exact ⟨hbs, e4⟩
          · cases hr

set_option maxHeartbeats 6400000 in
set_option maxRecDepth 100000 in
theorem codecOne_walk (v0 : Value) (raw : List Nat) (w : World) (h0 : Rd w w.heap.size v0 (raw.map vb)) (hb : Bytes raw) (ht : Tab w w.heap.size) :
    Calls Tryd.prog 11 #[v0] w fun e w' => e = .returned (.bool true) ∧ Grew w w' := by
  have HF := Lib.hid (few_any v0 raw 30 w h0 (by omega))
  have hbl : (raw.take 30).length ≤ 30 := List.length_take_le _ _
  have hbb : Bytes (raw.take 30) := fun x hx => hb x (List.mem_of_mem_take hx)
  have HBB := Lib.hid hbb
  have HT := Lib.hid ht
  clear h0 hb hbb ht
  generalize raw.take 30 = b at *
  go_enter Tryd.func11, Tryd.ntmps11
  go_wp2_with fail
  refine HF.out.mono ?_
  rintro e w2 ⟨vf, rfl, k1, k2⟩
  have HD := Lib.hid (decode_any vf b w2 k1.rd HBB.out (by omega) (HT.out.on k2))
  clear HF
  cases hd : Pl.decode b with
  | none =>
    rw [hd] at HD
    clear hd
    go_wp2_with fail
    refine HD.out.mono ?_
    rintro e w3 ⟨m1, rfl⟩
    have hG3 := k2.trans m1
    have b3 := k1.grew m1
    clear HD k1 k2 m1
    have HR := Lib.hid (readInts_any vf b w3 b3.rd HBB.out (by omega) (HT.out.on hG3))
    cases hr : readInts b with
    | none =>
      rw [hr] at HR
      clear hr
      go_wp2_with fail
      refine HR.out.mono ?_
      rintro e w6 ⟨q1, rfl⟩
      have hG6 := hG3.trans q1
      have HL := Lib.hid (lives_any w6 (HT.out.on hG6))
      clear HR q1
      go_wp2_with fail
      refine HL.out.mono ?_
      rintro e w7 ⟨rfl, r1⟩
      go_wp2_with fail
      go_ret
      exact ⟨rfl, hG6.trans r1⟩
    | some l =>
      obtain ⟨hpi, hil⟩ := readInts_some HBB.out hr
      have hll := readInts_len hr
      rw [hr] at HR
      have HPI := Lib.hid hpi
      have HIL := Lib.hid hil
      clear hr hpi hil
      go_wp2_with fail
      refine HR.out.mono ?_
      rintro e w6 ⟨q1, vl, rfl, q2⟩
      have hG6 := hG3.trans q1
      have b6 := b3.grew q1
      have HI := Lib.hid (cints_any vl l w6 q2.rd HIL.out (by omega) (HT.out.on hG6))
      clear HR q1
      go_wp2_with fail
      refine HI.out.mono ?_
      rintro e w7 ⟨vy, rfl, r1, r2⟩
      rw [HPI.out] at r1
      have hG7 := hG6.trans r2
      have b7 := b6.grew r2
      have HS7 := Lib.hid (sameBytes_any vy vf b b w7 r1.rd b7.rd (by omega) (by omega))
      rw [show decide (b = b) = true from by simp] at HS7
      clear HI r2 q2 b6
      go_wp2_with fail
      refine HS7.out.mono ?_
      rintro e w8 ⟨rfl, n8, h8⟩
      have g78 : Grew w7 w8 := by rw [h8]; exact (Grew.refl w7).drewN n8
      have hG8 := hG7.trans g78
      have HL := Lib.hid (lives_any w8 (HT.out.on hG8))
      clear h8 HS7 g78 b7 r1
      go_wp2_with fail
      refine HL.out.mono ?_
      rintro e w9 ⟨rfl, s1⟩
      go_wp2_with fail
      go_ret
      exact ⟨rfl, hG8.trans s1⟩
  | some c =>
    obtain ⟨hok, hlc, hpk⟩ := decode_some HBB.out hd
    rw [hd] at HD
    have HOK := Lib.hid hok
    have HPK := Lib.hid hpk
    clear hd hok hpk
    go_wp2_with fail
    refine HD.out.mono ?_
    rintro e w3 ⟨m1, vc, rfl, m2⟩
    have hG3 := k2.trans m1
    have b3 := k1.grew m1
    have HEn := Lib.hid (encode_any vc c w3 m2.rd (by omega) (HT.out.on hG3))
    clear HD k1 k2 m1
    go_wp2_with fail
    refine HEn.out.mono ?_
    rintro e w4 ⟨p1, ⟨-, vx, rfl, p2⟩ | ⟨p2, -⟩⟩
    rotate_left
    · exact absurd (encE_ok hlc HOK.out) p2
    rw [HPK.out] at p2
    have b4 := b3.grew p1
    have HS := Lib.hid (sameBytes_any vx vf b b w4 p2.rd b4.rd (by omega) (by omega))
    rw [show decide (b = b) = true from by simp] at HS
    clear HEn m2
    go_wp2_with fail
    refine HS.out.mono ?_
    rintro e w5 ⟨rfl, n5, h5⟩
    have g45 : Grew w4 w5 := by rw [h5]; exact (Grew.refl w4).drewN n5
    have hG5 := (hG3.trans p1).trans g45
    have b5 := b4.grew g45
    clear h5 HS p1 p2 g45 b4 b3 hG3
    have HR := Lib.hid (readInts_any vf b w5 b5.rd HBB.out (by omega) (HT.out.on hG5))
    cases hr : readInts b with
    | none =>
      rw [hr] at HR
      clear hr
      go_wp2_with fail
      refine HR.out.mono ?_
      rintro e w6 ⟨q1, rfl⟩
      have hG6 := hG5.trans q1
      have HL := Lib.hid (lives_any w6 (HT.out.on hG6))
      clear HR q1
      go_wp2_with fail
      refine HL.out.mono ?_
      rintro e w7 ⟨rfl, r1⟩
      go_wp2_with fail
      go_ret
      exact ⟨rfl, hG6.trans r1⟩
    | some l =>
      obtain ⟨hpi, hil⟩ := readInts_some HBB.out hr
      have hll := readInts_len hr
      rw [hr] at HR
      have HPI := Lib.hid hpi
      have HIL := Lib.hid hil
      clear hr hpi hil
      go_wp2_with fail
      refine HR.out.mono ?_
      rintro e w6 ⟨q1, vl, rfl, q2⟩
      have hG6 := hG5.trans q1
      have b6 := b5.grew q1
      have HI := Lib.hid (cints_any vl l w6 q2.rd HIL.out (by omega) (HT.out.on hG6))
      clear HR q1
      go_wp2_with fail
      refine HI.out.mono ?_
      rintro e w7 ⟨vy, rfl, r1, r2⟩
      rw [HPI.out] at r1
      have hG7 := hG6.trans r2
      have b7 := b6.grew r2
      have HS7 := Lib.hid (sameBytes_any vy vf b b w7 r1.rd b7.rd (by omega) (by omega))
      rw [show decide (b = b) = true from by simp] at HS7
      clear HI r2 q2 b6
      go_wp2_with fail
      refine HS7.out.mono ?_
      rintro e w8 ⟨rfl, n8, h8⟩
      have g78 : Grew w7 w8 := by rw [h8]; exact (Grew.refl w7).drewN n8
      have hG8 := hG7.trans g78
      have HL := Lib.hid (lives_any w8 (HT.out.on hG8))
      clear h8 HS7 g78 b7 r1
      go_wp2_with fail
      refine HL.out.mono ?_
      rintro e w9 ⟨rfl, s1⟩
      go_wp2_with fail
      go_ret
      exact ⟨rfl, hG8.trans s1⟩
end Go.Proofs.YtoojacpkbmgaeaaDoor
