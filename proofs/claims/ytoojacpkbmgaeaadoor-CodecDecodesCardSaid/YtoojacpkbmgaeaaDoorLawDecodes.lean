/- The law CodecDecodes, walked: it returns true and leaves what was there. -/
import Derived.Test.YtoojacpkbmgaeaaDoorRDecode
import Derived.Test.YtoojacpkbmgaeaaDoorClaims
import Derived.Test.YtoojacpkbmgaeaaDoorSameC
import Derived.Test.YtoojacpkbmgaeaaDoorLawInts
namespace Go.Proofs.YtoojacpkbmgaeaaDoor
open Go.RowKit Pl

theorem encB_len9 {cs : List Clm} (h : cs.length ≤ 9) : (encB cs).length ≤ 900 := by
  unfold encB
  split
  · have := cbits_length cs
    rw [pack_length]; omega
  · simp
theorem encB_bytes (cs : List Clm) : Bytes (encB cs) := by
  unfold encB
  split
  · exact pack_bytes _
  · intro x hx; simp at hx
theorem bytes_snoc {bs : List Nat} (h : Bytes bs) {c : Nat} (hc : c < 256) : Bytes (bs ++ [c]) := fun x hx => by
  rcases List.mem_append.1 hx with h1 | h1
  · exact h x h1
  · obtain rfl := List.mem_singleton.1 h1; exact hc

set_option maxHeartbeats 6400000 in
set_option maxRecDepth 100000 in
theorem codecDecodes_walk (v0 v1 : Value) (raw : List Nat) (l : List Int) (a : Int) (c : Nat) (w : World) (h0 : Rd w w.heap.size v0 (raw.map vb)) (hb : Bytes raw) (h1 : Rd w w.heap.size v1 (l.map vi)) (hi : ∀ x ∈ l, I64 x) (hl : l.length ≤ 1000000000000000) (ha : I64 a) (hc : c < 256) (ht : Tab w w.heap.size) :
    Calls Tryd.prog 9 #[v0, v1, .int .i64 a, .int .u8 (c : Nat)] w fun e w' => e = .returned (.bool true) ∧ Grew w w' := by
  have HC := Lib.hid (claims_any v1 l w h1 hi hl)
  have H0 := Lib.hid h0
  have HT := Lib.hid ht
  clear h1 hi h0 ht
  go_enter Tryd.func9, Tryd.ntmps9
  go_wp2_with fail
  refine HC.out.mono ?_
  rintro e w2 ⟨va, cs, rfl, k1, k2, k3, k4⟩
  have HE := Lib.hid (rencode_any va cs w2 k1.rd (by omega))
  have hbl := encB_len9 k3
  have HBB := Lib.hid (encB_bytes cs)
  clear HC k2
  go_wp2_with fail
  refine HE.out.mono ?_
  rintro e w3 hp
  obtain ⟨vx, rfl, p1, p2⟩ := hp.all
  have hG3 := k4.trans p2
  clear HE hp k1 k3 p2
  have p1' := p1.base_le k4.size
  have HF := Lib.hid (few_any v0 raw 40 w3 ((H0.out.grew (Nat.le_refl _) hG3).more hG3.size) (by omega))
  clear p1 k4
  generalize encB cs = bs at *
  go_wp2_with fail
  refine HF.out.mono ?_
  rintro e w4 ⟨vf, rfl, q1, q2⟩
  have b4 := p1'.grew q2
  have HTn := Lib.hid (turned_any vx bs a c w4 b4.rd (by omega) ha)
  clear HF
  go_wp2_with fail
  refine HTn.out.mono ?_
  rintro e w5 ⟨vt, rfl, r1, r2⟩
  have hG5 := (hG3.trans q2).trans r2
  have b5 := b4.grew r2
  have q5 := q1.grew r2
  have hs5 := hG5.size
  have hfl : (raw.take 40).length ≤ 40 := List.length_take_le _ _
  have HFB := Lib.hid (show Bytes (raw.take 40) from fun x hx => hb x (List.mem_of_mem_take hx))
  have HTB := Lib.hid (turn_bytes HBB.out a hc)
  have HTL := Lib.hid (turn_length bs a c)
  have hxf : ∀ k, vx.ownBlock = some k → vf.ownBlock ≠ some k := fun k hk e => by
    have h1 := (p1'.lt k hk).2
    have h2 := (q5.lt k e).1
    omega
  have hxt : ∀ k, vx.ownBlock = some k → vt.ownBlock ≠ some k := fun k hk e => by
    have h1 := (b4.lt k hk).2
    have h2 := (r1.lt k e).1
    omega
  have HXF := Lib.hid hxf
  have HXT := Lib.hid hxt
  have hbll : (bs.map vb).length < 1099511627776 := by rw [List.length_map]; omega
  obtain ⟨Ax, nx, cx, rfl, -⟩ := b5.slice
  obtain ⟨Af, nf, cf, rfl, -⟩ := q5.slice
  obtain ⟨At, nt, ct, rfl, -⟩ := r1.slice
  clear HTn b4 q1 q2 r2 p1' hxf hxt hG3
  go_wp2_with (at_builtin; refine app_one slU8 rfl (.tmp 29) (.tmp 31) rfl rfl (b5.alloc _) w5.heap.size 1 (.int .u8 (c : Nat)) rfl (Nat.le_refl _) (by simp) (by simp) rfl hbll (by simp; omega) ?_; intro r cap w6 hM6 hk6 hr6 hbr6 hlr6)
  have hG6 : Grew w w6 := (hG5.alloc _).app (b5.alloc _) hk6
  have q6 := (q5.alloc (.cells #[.int .u8 (c : Nat)] 5)).keep hk6 (fun k h e => HXF.out k e h)
  have t6 := (r1.alloc (.cells #[.int .u8 (c : Nat)] 5)).keep hk6 (fun k h e => HXT.out k e h)
  have hM6' : Mine w6 w.heap.size 5 (.slice (some ⟨r, 0, none⟩) (bs.length + 1) cap) ((bs ++ [c]).map vb) := by rw [List.map_append]; rw [List.length_map] at hM6; exact hM6
  generalize bs.length + 1 = n6 at *
  have hel : Elems (w6.alloc (.cells #[.slice Af nf cf, .slice At nt ct, .slice (some ⟨r, 0, none⟩) n6 cap] 31)) w6.heap.size 3 1000 := by
    have hbx := Box.new w6 31 #[.slice Af nf cf, .slice At nt ct, .slice (some ⟨r, 0, none⟩) n6 cap]
    intro j hj
    have : j = 0 ∨ j = 1 ∨ j = 2 := by omega
    rcases this with rfl | rfl | rfl
    · exact ⟨Af, nf, cf, _, hbx.cell 0, (q6.alloc _).rd, HFB.out, by omega⟩
    · exact ⟨At, nt, ct, _, hbx.cell 1, (t6.alloc _).rd, HTB.out, by rw [HTL.out]; omega⟩
    · exact ⟨_, n6, cap, _, hbx.cell 2, (hM6'.alloc _).rd, bytes_snoc HBB.out hc, by simp; omega⟩
  have hG8 := hG6.alloc (.cells #[.slice Af nf cf, .slice At nt ct, .slice (some ⟨r, 0, none⟩) n6 cap] 31)
  have hsz8 : w6.heap.size < (w6.alloc (.cells #[.slice Af nf cf, .slice At nt ct, .slice (some ⟨r, 0, none⟩) n6 cap] 31)).heap.size := by simp
  clear hM6 hM6' q6 t6 hG6 hk6 hr6 hG5 b5 q5 r1 HFB HTB HTL HXF HXT
  generalize w6.alloc (.cells #[.slice Af nf cf, .slice At nt ct, .slice (some ⟨r, 0, none⟩) n6 cap] 31) = w8 at *
  generalize w6.heap.size = g at *
  go_loopw [12] (fun i wr => ∃ (j : Nat), j ≤ 3 ∧ i = .int .i64 j ∧ Grew w8 wr) (fun i _ => 3 - (intOf i).toNat)
  case atStart => exact ⟨0, by omega, rfl, Grew.refl _⟩
  case round =>
    obtain ⟨j, hj, rfl, hGr⟩ := hrel
    have hGw := hG8.trans hGr
    by_cases hlt : j < 3
    · obtain ⟨A, q, cp, ds, hcell, hrd, hbb, hdl⟩ := hel.grew hsz8 hGr j hlt
      have HD1 := Lib.hid (decode_any _ ds wr hrd hbb (by omega) (HT.out.on hGw))
      have HC2 := Lib.hid (fun (w' : World) (hk : Grew wr w') => (World.cell?_of_block (hk.block g (Nat.lt_of_lt_of_le hsz8 hGr.size) (fun e => e))).trans hcell)
      have HD2 := Lib.hid (fun (w' : World) (hk : Grew wr w') => rdecode_any _ ds w' ((hrd.grew (Nat.le_refl _) hk).more hk.size) hbb (by omega))
      have HEQ := Lib.hid (decode_eq_ref ds hbb)
      cases hd : Pl.decode ds with
      | none =>
        rw [hd] at HD1
        have HRN := Lib.hid hd
        clear hd
        go_wp2_with fail
        refine HD1.out.mono ?_
        rintro e w9 ⟨s1, rfl⟩
        have hc9 := HC2.out w9 s1
        have HD3 := Lib.hid (HD2.out w9 s1)
        rw [← HEQ.out, HRN.out] at HD3
        go_wp2_with fail
        refine HD3.out.mono ?_
        rintro e wa ⟨s2, rfl⟩
        have HS := Lib.hid (sameC_any (.slice none 0 0) (.slice none 0 0) [] [] wa (RdC.nil _ _) (RdC.nil _ _) (by simp) (by simp))
        rw [show decide (([] : List Clm) = []) = true from rfl] at HS
        go_wp2_with fail
        refine HS.out.mono ?_
        rintro e wb ⟨rfl, nb', hwb⟩
        have gab : Grew wa wb := by rw [hwb]; exact (Grew.refl wa).drewN nb'
        clear hwb
        go_wp2_with fail
        go_roundw
        case rel => exact ⟨j + 1, by omega, by go_num, ((hGr.trans s1).trans s2).trans gab⟩
        case measure => simp [intOf]; omega
      | some x =>
        obtain ⟨_, hxl, _⟩ := decode_some hbb hd
        rw [hd] at HD1
        have HRN := Lib.hid hd
        clear hd
        go_wp2_with fail
        refine HD1.out.mono ?_
        rintro e w9 ⟨s1, vy, rfl, s3⟩
        have hc9 := HC2.out w9 s1
        have HD3 := Lib.hid (HD2.out w9 s1)
        rw [← HEQ.out, HRN.out] at HD3
        obtain ⟨Ay, ny, cy, rfl, -⟩ := s3.slice
        go_wp2_with fail
        refine HD3.out.mono ?_
        rintro e wa ⟨s2, vz, rfl, s4⟩
        obtain ⟨Az, nz, cz, rfl, -⟩ := s4.slice
        have HS := Lib.hid (sameC_any _ _ x x wa (s3.grew s2).rd s4.rd (by omega) (by omega))
        rw [show decide (x = x) = true from by simp] at HS
        go_wp2_with fail
        refine HS.out.mono ?_
        rintro e wb ⟨rfl, nb', hwb⟩
        have gab : Grew wa wb := by rw [hwb]; exact (Grew.refl wa).drewN nb'
        clear hwb
        go_wp2_with fail
        go_roundw
        case rel => exact ⟨j + 1, by omega, by go_num, ((hGr.trans s1).trans s2).trans gab⟩
        case measure => simp [intOf]; omega
    · have HLv := Lib.hid (lives_any wr (HT.out.on hGw))
      clear hel
      go_wp2_with fail
      refine HLv.out.mono ?_
      rintro e wc ⟨rfl, s5⟩
      go_wp2_with fail
      go_ret
      exact ⟨rfl, hGw.trans s5⟩
end Go.Proofs.YtoojacpkbmgaeaaDoor
