/- The law CodecInts, walked: it returns true and leaves what was there. -/
import Derived.Test.YtoojacpkbmgaeaaDoorLives
namespace Go.Proofs.YtoojacpkbmgaeaaDoor
open Go.RowKit Pl

theorem readInts_len {bs : List Nat} {l : List Int} (h : readInts bs = some l) : l.length ≤ 8 * bs.length := by
  unfold readInts at h
  cases hp : parse (bitsOf bs) with
  | none => rw [hp] at h; simp at h
  | some p =>
    obtain ⟨n, t⟩ := p
    rw [hp] at h
    simp only at h
    split at h
    · cases h
    · unfold finInts at h
      have hpl := parse_length hp
      rw [bitsOf_length] at hpl
      split at h
      · cases h
      · rename_i l' r hr
        split at h
        · injection h with h
          subst h
          obtain ⟨_, h2, h3, _⟩ := reads_some hr
          omega
        · cases h
theorem pack_ints_len (l : List Int) (h : l.length ≤ 20) : (pack (ints l)).length ≤ 1000 := by
  rw [pack_length]
  have h1 := code_len_le l.length
  have h2 := codes_len (seconds 0 0 l)
  rw [seconds_length] at h2
  unfold ints
  rw [List.length_append]; omega

/- the slices of a slice of slices: each reads as bytes -/
def Elems (w : World) (g k L : Nat) : Prop := ∀ j, j < k → ∃ (A : Option Addr) (n c : Nat) (bs : List Nat), w.cell? ⟨g, j, none⟩ = some (.slice A n c) ∧ Rd w w.heap.size (.slice A n c) (bs.map vb) ∧ Bytes bs ∧ bs.length ≤ L
theorem Elems.grew {w w' : World} {g k L : Nat} (h : Elems w g k L) (hg : g < w.heap.size) (hk : Grew w w') : Elems w' g k L := fun j hj => by
  obtain ⟨A, n, c, bs, h1, h2, h3, h4⟩ := h j hj
  exact ⟨A, n, c, bs, (World.cell?_of_block (hk.block g hg (fun e => e))).trans h1, (h2.grew (Nat.le_refl _) hk).more hk.size, h3, h4⟩

set_option maxHeartbeats 6400000 in
set_option maxRecDepth 100000 in
theorem codecInts_walk (v0 v1 : Value) (ls : List Int) (raw : List Nat) (a : Int) (c : Nat) (w : World) (h0 : Rd w w.heap.size v0 (ls.map vi)) (hi : ∀ x ∈ ls, I64 x) (h1 : Rd w w.heap.size v1 (raw.map vb)) (hb : Bytes raw) (ha : I64 a) (hc : c < 256) (ht : Tab w w.heap.size) :
    Calls Tryd.prog 4 #[v0, v1, .int .i64 a, .int .u8 (c : Nat)] w fun e w' => e = .returned (.bool true) ∧ Grew w w' := by
  have H0 := Lib.hid (firstInts_any v0 ls 20 w h0 (by omega))
  have hil : ∀ x ∈ ls.take 20, I64 x := fun x hx => hi x (List.mem_of_mem_take hx)
  have hll : (ls.take 20).length ≤ 20 := List.length_take_le _ _
  have HIL := Lib.hid hil
  have H1 := Lib.hid h1
  clear h0 hi hil h1
  generalize ls.take 20 = n at *
  have hpl := pack_ints_len n hll
  have hpb := pack_bytes (ints n)
  have HPB := Lib.hid hpb
  have HRB := Lib.hid (readInts_ints n HIL.out (by omega))
  clear hpb
  go_enter Tryd.func4, Tryd.ntmps4
  go_wp2_with fail
  refine H0.out.mono ?_
  rintro e w2 ⟨vn, rfl, k1, k2⟩
  have HI := Lib.hid (cints_any vn n w2 k1.rd HIL.out (by omega) (ht.on k2))
  go_wp2_with fail
  refine HI.out.mono ?_
  rintro e w3 ⟨vb1, rfl, m1, m2⟩
  have HR := Lib.hid (rints_any vn n w3 (k1.grew m2).rd HIL.out (by omega))
  go_wp2_with fail
  refine HR.out.mono ?_
  rintro e w4 ⟨vr, rfl, p1, p2⟩
  have HS := Lib.hid (sameBytes_any vb1 vr (pack (ints n)) (pack (ints n)) w4 (m1.grew p2).rd p1.rd (by omega) (by omega))
  rw [show decide (pack (ints n) = pack (ints n)) = true from by simp] at HS
  go_wp2_with fail
  refine HS.out.mono ?_
  rintro e w5 ⟨rfl, n5, h5⟩
  have g45 : Grew w4 w5 := by rw [h5]; exact (Grew.refl w4).drewN n5
  have hG5 : Grew w w5 := ((k2.trans m2).trans p2).trans g45
  have kn5 := ((k1.grew m2).grew p2).grew g45
  have mb5 := (m1.grew p2).grew g45
  clear h5 HS HR HI H0
  have HF := Lib.hid (few_any v1 raw 40 w5 ((H1.out.grew (Nat.le_refl _) hG5).more hG5.size) (by omega))
  go_wp2_with fail
  refine HF.out.mono ?_
  rintro e w6 ⟨vf, rfl, q1, q2⟩
  have HT := Lib.hid (turned_any vb1 (pack (ints n)) a c w6 (mb5.grew q2).rd (by omega) ha)
  clear HF
  go_wp2_with fail
  refine HT.out.mono ?_
  rintro e w7 ⟨vt, rfl, r1, r2⟩
  have hG7 := (hG5.trans q2).trans r2
  have kn7 := (kn5.grew q2).grew r2
  have mb7 := (mb5.grew q2).grew r2
  have q7 := q1.grew r2
  have hfl : (raw.take 40).length ≤ 40 := List.length_take_le _ _
  have hfb : Bytes (raw.take 40) := fun x hx => hb x (List.mem_of_mem_take hx)
  have htb := turn_bytes HPB.out a hc
  have htl := turn_length (pack (ints n)) a c
  have HFB := Lib.hid hfb
  have HTB := Lib.hid htb
  have HTL := Lib.hid htl
  clear HT hfb htb htl k1 k2 m1 m2 p1 p2 g45 hG5 kn5 mb5 q1 q2 r2
  obtain ⟨Ab, nb, cb, rfl, -⟩ := mb7.slice
  obtain ⟨Af, nf, cf, rfl, -⟩ := q7.slice
  obtain ⟨At, nt, ct, rfl, -⟩ := r1.slice
  have hel : Elems (w7.alloc (.cells #[.slice Ab nb cb, .slice Af nf cf, .slice At nt ct] 31)) w7.heap.size 3 1000 := by
    have hbx := Box.new w7 31 #[.slice Ab nb cb, .slice Af nf cf, .slice At nt ct]
    intro j hj
    have : j = 0 ∨ j = 1 ∨ j = 2 := by omega
    rcases this with rfl | rfl | rfl
    · exact ⟨Ab, nb, cb, _, hbx.cell 0, (mb7.alloc _).rd, HPB.out, hpl⟩
    · exact ⟨Af, nf, cf, _, hbx.cell 1, (q7.alloc _).rd, HFB.out, by omega⟩
    · exact ⟨At, nt, ct, _, hbx.cell 2, (r1.alloc _).rd, HTB.out, by rw [HTL.out]; exact hpl⟩
  have hG8 := hG7.alloc (.cells #[.slice Ab nb cb, .slice Af nf cf, .slice At nt ct] 31)
  have kn8 := kn7.alloc (.cells #[.slice Ab nb cb, .slice Af nf cf, .slice At nt ct] 31)
  have mb8 := mb7.alloc (.cells #[.slice Ab nb cb, .slice Af nf cf, .slice At nt ct] 31)
  have hsz8 : w7.heap.size < (w7.alloc (.cells #[.slice Ab nb cb, .slice Af nf cf, .slice At nt ct] 31)).heap.size := by simp
  clear hG7 kn7 mb7 q7 r1 HFB HTB HTL
  go_wp2_with fail
  generalize w7.alloc (.cells #[.slice Ab nb cb, .slice Af nf cf, .slice At nt ct] 31) = w8 at *
  generalize w7.heap.size = g at *
  go_loopw [12] (fun i wr => ∃ (j : Nat), j ≤ 3 ∧ i = .int .i64 j ∧ Grew w8 wr) (fun i _ => 3 - (intOf i).toNat)
  case atStart => exact ⟨0, by omega, rfl, Grew.refl _⟩
  case round =>
    obtain ⟨j, hj, rfl, hGr⟩ := hrel
    have hGw := hG8.trans hGr
    by_cases hlt : j < 3
    · obtain ⟨A, q, cp, bs, hcell, hrd, hbb, hbl⟩ := hel.grew hsz8 hGr j hlt
      have HR1 := Lib.hid (readInts_any _ bs wr hrd hbb (by omega) (ht.on hGw))
      have hcell2 : ∀ w', Grew wr w' → w'.cell? ⟨g, j, none⟩ = some (.slice A q cp) := fun w' hk => (World.cell?_of_block (hk.block g (Nat.lt_of_lt_of_le hsz8 hGr.size) (fun e => e))).trans hcell
      have HC2 := Lib.hid hcell2
      have HR2 := fun (w' : World) (hk : Grew wr w') => Lib.hid (rreadInts_any _ bs w' ((hrd.grew (Nat.le_refl _) hk).more hk.size) hbb (by omega))
      have HR3 := Lib.hid HR2
      have heq := readInts_eq_ref bs hbb
      have HEQ := Lib.hid heq
      clear hcell2 HR2 heq
      cases hr : readInts bs with
      | none =>
        rw [hr] at HR1
        have HRN := Lib.hid hr
        clear hr
        go_wp2_with fail
        refine HR1.out.mono ?_
        rintro e w9 ⟨s1, rfl⟩
        have hc9 := HC2.out w9 s1
        have HR4 := Lib.hid (HR3.out w9 s1).out
        rw [← HEQ.out, HRN.out] at HR4
        go_wp2_with fail
        refine HR4.out.mono ?_
        rintro e wa ⟨s2, rfl⟩
        have hnil : Rd wa wa.heap.size (.slice none 0 0) (([] : List Int).map vi) := ⟨none, 0, rfl, Nat.le_refl _, fun h => absurd h (by simp)⟩
        have HSi := Lib.hid (sameInts_any (.slice none 0 0) (.slice none 0 0) [] [] wa hnil hnil (by simp) (by simp))
        rw [show decide (([] : List Int) = []) = true from rfl] at HSi
        clear hnil
        go_wp2_with fail
        refine HSi.out.mono ?_
        rintro e wb ⟨rfl, nb', hwb⟩
        have gab : Grew wa wb := by rw [hwb]; exact (Grew.refl wa).drewN nb'
        clear hwb
        go_wp2_with fail
        go_roundw
        case rel => exact ⟨j + 1, by omega, by go_num, ((hGr.trans s1).trans s2).trans gab⟩
        case measure => simp [intOf]; omega
      | some x =>
        have hxl := readInts_len hr
        rw [hr] at HR1
        have HRN := Lib.hid hr
        clear hr
        go_wp2_with fail
        refine HR1.out.mono ?_
        rintro e w9 ⟨s1, vx, rfl, s3⟩
        have hc9 := HC2.out w9 s1
        have HR4 := Lib.hid (HR3.out w9 s1).out
        rw [← HEQ.out, HRN.out] at HR4
        go_wp2_with fail
        refine HR4.out.mono ?_
        rintro e wa ⟨s2, vy, rfl, s4⟩
        have HSi := Lib.hid (sameInts_any vx vy x x wa (s3.grew s2).rd s4.rd (by omega) (by omega))
        rw [show decide (x = x) = true from by simp] at HSi
        go_wp2_with fail
        refine HSi.out.mono ?_
        rintro e wb ⟨rfl, nb', hwb⟩
        have gab : Grew wa wb := by rw [hwb]; exact (Grew.refl wa).drewN nb'
        clear hwb
        go_wp2_with fail
        go_roundw
        case rel => exact ⟨j + 1, by omega, by go_num, ((hGr.trans s1).trans s2).trans gab⟩
        case measure => simp [intOf]; omega
    · have HR1 := Lib.hid (readInts_any _ (pack (ints n)) wr (mb8.grew hGr).rd HPB.out (by omega) (ht.on hGw))
      rw [HRB.out] at HR1
      have knr := kn8.grew hGr
      clear hel kn8 mb8
      go_wp2_with fail
      refine HR1.out.mono ?_
      rintro e w9 ⟨s1, vx, rfl, s3⟩
      have HSi := Lib.hid (sameInts_any vx vn n n w9 s3.rd (knr.grew s1).rd (by omega) (by omega))
      rw [show decide (n = n) = true from by simp] at HSi
      go_wp2_with fail
      refine HSi.out.mono ?_
      rintro e wb ⟨rfl, nb', hwb⟩
      have gab : Grew w9 wb := by rw [hwb]; exact (Grew.refl w9).drewN nb'
      clear hwb
      have hGb := (hGw.trans s1).trans gab
      have HLv := Lib.hid (lives_any wb (ht.on hGb))
      go_wp2_with fail
      refine HLv.out.mono ?_
      rintro e wc ⟨rfl, s5⟩
      go_wp2_with fail
      go_ret
      exact ⟨rfl, hGb.trans s5⟩
end Go.Proofs.YtoojacpkbmgaeaaDoor
