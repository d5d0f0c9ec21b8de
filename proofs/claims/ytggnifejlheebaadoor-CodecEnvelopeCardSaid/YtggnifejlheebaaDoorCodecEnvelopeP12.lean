/- codec.ReadInts. The reference's reader: Unpack, Unary, Bits, Back. The reference's reader: Unary, Bits. The reference's reader: Bits. The reference's reader: one code. The reference's ReadInts. -/
import Derived.Test.YtggnifejlheebaaDoorCodecEnvelopeP11
namespace Go.Proofs.YtggnifejlheebaaDoor
open Go.RowKit Pl

/- what is left of the reading -/
def Rest (N : Nat) (t0 : List Bool) (j : Nat) (be la : Int) (s : List Bool) (acc : List Int) : Prop :=
  j ≤ N ∧ reads N 0 0 t0 = (reads (N - j) be la s).map fun p => (acc ++ p.1, p.2)
theorem Rest.start (N : Nat) (t0 : List Bool) : Rest N t0 0 0 0 t0 [] := ⟨by omega, by cases reads N 0 0 t0 <;> simp⟩
theorem Rest.step {N j : Nat} {t0 s t : List Bool} {be la d : Int} {acc : List Int} (h : Rest N t0 j be la s acc) (hj : j < N) (hp : parse s = some (d, t)) : Rest N t0 (j + 1) la (wrap64 (d + 2 * la - be)) t (acc ++ [wrap64 (d + 2 * la - be)]) := by
  refine ⟨by omega, ?_⟩
  rw [h.2]
  obtain ⟨m, hm⟩ : ∃ m, N - j = m + 1 := ⟨N - j - 1, by omega⟩
  rw [hm, show N - (j + 1) = m by omega]
  simp only [reads, hp]
  cases reads m la (wrap64 (d + 2 * la - be)) t <;> simp
theorem Rest.fail {N j : Nat} {t0 s : List Bool} {be la : Int} {acc : List Int} (h : Rest N t0 j be la s acc) (hj : j < N) (hp : parse s = none) : reads N 0 0 t0 = none := by
  rw [h.2]
  obtain ⟨m, hm⟩ : ∃ m, N - j = m + 1 := ⟨N - j - 1, by omega⟩
  rw [hm]
  simp only [reads, hp]
  rfl
theorem Rest.done {N : Nat} {t0 s : List Bool} {be la : Int} {acc : List Int} (h : Rest N t0 N be la s acc) : reads N 0 0 t0 = some (acc, s) := by
  rw [h.2, Nat.sub_self]; simp [reads]
theorem wrap_back (d a b : Int) : wrap64 (d + wrap64 (wrap64 (2 * a) - b)) = wrap64 (d + 2 * a - b) := by unfold wrap64; omega

theorem Grew.thenR {w0 w w' : World} {g : Nat} (h : Grew w0 w) (k : KeepsR g w w') (hg : w0.heap.size ≤ g) : Grew w0 w' := Keeps.then_ h k fun i hi e => by omega
theorem Mine.keepR {w w' : World} {base g : Nat} {e t : TypeId} {v : Value} {xs : List Value} {cs : Array Value} (h : Mine w base e v xs) (k : KeepsR g w w') (hb : Box w g t cs) (hne : e ≠ t) : Mine w' base e v xs :=
  h.keep k fun i hi e1 => by subst e1; exact h.ne_box hi hb hne rfl
theorem BR.aside {w w' : World} {base g base' : Nat} {v u : Value} {bs : List Nat} {a : Nat} {er : Int} {e : TypeId} {xs : List Value} (h : BR w base g v bs a er) (hm : Mine w base' e u xs) (h1 : e ≠ 5) (h2 : e ≠ 95) (hk : Keeps (fun i => u.ownBlock = some i) w w') : BR w' base g v bs a er :=
  ⟨h.box.keep hk (fun e1 => hm.ne_box e1 h.box h2 rfl), h.row.aside hm h1 hk, h.bytes, h.small, h.here⟩

/- what ReadInts does -/
def RIPost (_ : List Nat) (w : World) (o : Option (List Int)) (e : Ending) (w' : World) : Prop :=
  Grew w w' ∧
  match o with
  | some l => ∃ v', e = .returned (.tuple #[v', .int .i64 0]) ∧ Mine w' w.heap.size 3 v' (l.map vi)
  | none => e = .returned (.tuple #[.slice none 0 0, .int .i64 2])

set_option maxHeartbeats 6400000 in
set_option maxRecDepth 100000 in
theorem readInts_any (v : Value) (bs : List Nat) (w : World) (h : Rd w w.heap.size v (bs.map vb)) (hb : Bytes bs) (hs : bs.length ≤ 100000000) (ht : Tab w w.heap.size) :
    Calls Tryd.prog 31 #[v] w (RIPost bs w (readInts bs)) := by
  have HR := Lib.hid (bread_any v bs w h hb (by omega))
  have hb0 : (bitsOf bs).drop 0 = bitsOf bs := rfl
  unfold readInts
  cases hp : parse (bitsOf bs) with
  | none =>
    simp only
    have HP := Lib.hid hp
    clear hp
    go_enter Tryd.func31, Tryd.ntmps31
    go_wp2_with fail
    refine HR.out.mono ?_
    rintro e w2 ⟨g, v2, rfl, k1, k2, k3⟩
    have HRd := Lib.hid (read_any g w.heap.size v2 bs 0 w2 k1 k2 (ht.grew k3))
    rw [hb0, HP.out] at HRd
    go_wp2_with fail
    refine HRd.out.mono ?_
    rintro e w3 ⟨m1, rfl⟩
    go_wp2_with fail
    go_ret2
    exact ⟨k3.thenR m1 k2, rfl⟩
  | some p =>
    obtain ⟨n, t⟩ := p
    simp only
    have hni := (code_parse hp).2
    have hpl := parse_length hp
    rw [bitsOf_length] at hpl
    have HP := Lib.hid hp
    clear hp
    by_cases hn0 : n < 0
    · rw [if_pos hn0]
      have hdn : decide (n < 0) = true := by simp [hn0]
      go_enter Tryd.func31, Tryd.ntmps31
      go_wp2_with fail
      refine HR.out.mono ?_
      rintro e w2 ⟨g, v2, rfl, k1, k2, k3⟩
      have HRd := Lib.hid (read_any g w.heap.size v2 bs 0 w2 k1 k2 (ht.grew k3))
      rw [hb0, HP.out] at HRd
      go_wp2_with fail
      refine HRd.out.mono ?_
      rintro e w3 ⟨m1, rfl, a, m2, m3⟩
      clear m3
      go_wp2_with fail
      go_ret2
      exact ⟨k3.thenR m1 k2, rfl⟩
    · rw [if_neg hn0]
      have hdn : decide (n < 0) = false := by simp; omega
      obtain ⟨N, rfl⟩ := Int.eq_ofNat_of_zero_le (Int.not_lt.1 hn0)
      obtain ⟨_, hN⟩ := hni
      rw [Int.toNat_natCast]
      clear hn0
      go_enter Tryd.func31, Tryd.ntmps31
      go_wp2_with fail
      refine HR.out.mono ?_
      rintro e w2 ⟨g, v2, rfl, k1, k2, k3⟩
      have HRd := Lib.hid (read_any g w.heap.size v2 bs 0 w2 k1 k2 (ht.grew k3))
      rw [hb0, HP.out] at HRd
      go_wp2_with fail
      refine HRd.out.mono ?_
      rintro e w3 ⟨m1, rfl, a, m2, m3⟩
      have M3 := Lib.hid m3
      clear m3
      go_wp2_with fail
      have hG3 := k3.thenR m1 k2
      clear HRd HR k1 k3 m1 hdn h
      go_loopw [7, 8, 9, 26] (fun x la be i wr => ∃ (j m : Nat) (A : Option Addr) (c a : Nat) (l b : Int) (ac : List Int), j ≤ N ∧ j ≤ a ∧ i = .int .i64 j ∧ x = .slice A m c ∧ la = .int .i64 l ∧ be = .int .i64 b ∧ ac.length = j ∧ BR wr w.heap.size g v2 bs a 0 ∧ Mine wr w.heap.size 3 (.slice A m c) (ac.map vi) ∧ Grew w wr ∧ Rest N t j b l ((bitsOf bs).drop a) ac)
        (fun _ _ _ i _ => 8 * bs.length + 1 - (intOf i).toNat)
      case atStart => exact ⟨0, 0, none, 0, a, 0, 0, [], by omega, by omega, rfl, rfl, rfl, rfl, rfl, m2, Mine.nil _ _ _, hG3, by rw [← M3.out]; exact Rest.start _ _⟩
      case round =>
        clear hG3 m2 M3 a
        obtain ⟨j, m, A, c, a, la, be, ac, hj, hja, rfl, rfl, rfl, rfl, hacl, hB, hM, hG, hR⟩ := hrel
        have hsz := hG.size
        have hhe := hB.here
        have HAC := Lib.hid hacl
        have HRS := Lib.hid hR
        clear hacl hR
        by_cases hlt : j < N
        · have HRd := Lib.hid (read_any g w.heap.size v2 bs a wr hB k2 (ht.grew hG))
          cases hq : parse ((bitsOf bs).drop a) with
          | none =>
            have hfail := HRS.out.fail hlt hq
            have HF := Lib.hid hfail
            rw [hq] at HRd
            clear hq hfail
            go_wp2_with (go_at_call 24; refine HRd.out.mono ?_; rintro e w4 ⟨p1, rfl⟩)
            go_ret2
            unfold finInts
            rw [HF.out]
            exact ⟨hG.thenR p1 k2, rfl⟩
          | some q =>
            obtain ⟨d, t2⟩ := q
            have hst := HRS.out.step hlt hq
            have hpl2 := parse_length hq
            rw [List.length_drop, bitsOf_length] at hpl2
            have HST := Lib.hid hst
            rw [hq] at HRd
            clear hq hst
            have hbl : (ac.map vi).length < 1099511627776 := by rw [List.length_map, HAC.out]; omega
            have hwb := wrap_back d la be
            have HWB := Lib.hid hwb
            clear hwb
            go_wp2_with fail
            refine HRd.out.mono ?_
            rintro e w4 ⟨p1, rfl, a2, p2, p3⟩
            have hM4 := hM.keepR p1 hB.box (by decide)
            have hG4 := hG.thenR p1 k2
            have hsz4 := hG4.size
            have ha2 := p2.here
            rw [p3, List.length_drop, bitsOf_length] at hpl2
            have P3 := Lib.hid p3
            clear p3 HRd
            go_wp2_with (at_builtin; refine app_one slInt rfl (.tmp 41) (.tmp 43) rfl rfl (hM4.alloc _) w4.heap.size 1 (.int .i64 (wrap64 (d + wrap64 (wrap64 (2 * la) - be)))) rfl (Nat.le_refl _) (by simp) (by simp) rfl hbl (by simp; omega) ?k)
            case k =>
            intro r cap w5 hM5 hk5 hr5 hbr5 hlr5
            have hG5 : Grew w w5 := (hG4.alloc _).app (hM4.alloc _) hk5
            have hB5 : BR w5 w.heap.size g v2 bs a2 0 := (p2.alloc _).aside (hM4.alloc _) (by decide) (by decide) hk5
            rw [HWB.out] at hM5
            have HM5 := Lib.hid hM5
            clear hM5 hM4 hM hk5 hbl
            rw [HWB.out]
            go_wp2_with fail
            go_roundw
            case rel =>
              refine ⟨j + 1, _, _, _, a2, _, _, ac ++ [wrap64 (d + 2 * la - be)], by omega, by omega, by go_num, rfl, rfl, rfl, by rw [List.length_append, HAC.out]; rfl, hB5, ?_, hG5, by rw [← P3.out]; exact HST.out⟩
              rw [List.map_append]; exact HM5.out
            case measure => simp [intOf]; omega
        · obtain rfl : j = N := by omega
          have hdone := HRS.out.done
          have HDN := Lib.hid hdone
          clear hdone
          have HE := Lib.hid (end_any g w.heap.size v2 bs a wr hB)
          by_cases hpd : padded ((bitsOf bs).drop a)
          · rw [endCode_yes hpd] at HE
            have HPD := Lib.hid hpd
            clear hpd
            go_wp2_with (go_at_call 25; refine HE.out.mono ?_; rintro e w4 ⟨rfl, n4, rfl⟩)
            go_ret2
            unfold finInts
            rw [HDN.out]
            simp only
            rw [if_pos HPD.out]
            exact ⟨hG.drewN _, _, rfl, hM⟩
          · rw [endCode_no hpd] at HE
            have HPD := Lib.hid hpd
            clear hpd
            go_wp2_with (go_at_call 25; refine HE.out.mono ?_; rintro e w4 ⟨rfl, n4, rfl⟩)
            go_ret2
            unfold finInts
            rw [HDN.out]
            simp only
            rw [if_neg HPD.out]
            exact ⟨hG.drewN _, rfl⟩
end Go.Proofs.YtggnifejlheebaaDoor
namespace Go.Proofs.YtggnifejlheebaaDoor
open Go.RowKit Pl

theorem bitsOf_snoc (l : List Nat) (x : Nat) : bitsOf (l ++ [x]) = bitsOf l ++ bin x 8 := by
  apply List.ext_getElem?
  intro k
  unfold bitsOf
  rw [List.getElem?_map, List.length_append, List.length_singleton]
  by_cases hk : k < 8 * l.length
  · rw [List.getElem?_append_left (by simp; exact hk), List.getElem?_map, List.getElem?_range hk, List.getElem?_range (by omega)]
    simp only [Option.map_some]
    unfold bitAt
    rw [List.getD_eq_getElem?_getD, List.getD_eq_getElem?_getD, List.getElem?_append_left (by omega)]
  · rw [List.getElem?_append_right (by simp; omega)]
    by_cases hk2 : k < 8 * (l.length + 1)
    · rw [List.getElem?_range hk2]
      unfold bin
      rw [List.getElem?_map, List.length_map, List.length_range, List.getElem?_range (by omega)]
      simp only [Option.map_some]
      unfold bitAt
      have e1 : k / 8 = l.length := by omega
      have e2 : k % 8 = k - 8 * l.length := by omega
      rw [e1, e2, List.getD_eq_getElem?_getD, List.getElem?_append_right (Nat.le_refl _), Nat.sub_self]
      rfl
    · rw [List.getElem?_eq_none (by simp; omega), List.getElem?_eq_none (by rw [bin_length]; simp; omega)]; rfl
theorem bitsOf_take (l : List Nat) (j : Nat) (hj : j < l.length) : bitsOf (l.take (j + 1)) = bitsOf (l.take j) ++ bin (l.getD j 0) 8 := by
  rw [List.take_add_one, List.getElem?_eq_getElem hj, Option.toList_some, bitsOf_snoc, List.getD_eq_getElem?_getD, List.getElem?_eq_getElem hj]; rfl
theorem Rd.byte_at {w : World} {B : Nat} {A : Option Addr} {n c j : Nat} {l : List Nat} (h : Rd w B (.slice A n c) (l.map vb)) (hj : j < l.length) : ∃ ad, A = some ad ∧ ad.block < B ∧ w.cell? (ad.add j) = some (.int .u8 (l.getD j 0 : Nat)) := by
  obtain ⟨ad, u, rfl, hadb, hu, hcell⟩ := h.at_ (j := j) (by rw [List.length_map]; exact hj)
  refine ⟨ad, rfl, hadb, ?_⟩
  rw [List.getElem?_map, List.getElem?_eq_getElem hj] at hu
  rw [hcell, ← Option.some.inj hu, List.getD_eq_getElem?_getD, List.getElem?_eq_getElem hj]; rfl
theorem getD_byte {l : List Nat} (hi : Bytes l) (j : Nat) : l.getD j 0 < 256 := by
  rw [List.getD_eq_getElem?_getD]
  by_cases hj : j < l.length
  · rw [List.getElem?_eq_getElem hj]; exact hi _ (List.getElem_mem hj)
  · rw [List.getElem?_eq_none (by omega)]; decide

end Go.Proofs.YtggnifejlheebaaDoor
namespace Go.Proofs.YtggnifejlheebaaDoor
open Go.RowKit Pl

end Go.Proofs.YtggnifejlheebaaDoor
namespace Go.Proofs.YtggnifejlheebaaDoor
open Go.RowKit Pl

end Go.Proofs.YtggnifejlheebaaDoor
namespace Go.Proofs.YtggnifejlheebaaDoor
open Go.RowKit Pl

theorem len_inj {i j : Nat} (hi : i ≤ 5) (hj : j ≤ 5) (h : i + 1 + width i = j + 1 + width j) : i = j := by
  have h1 : i = 0 ∨ i = 1 ∨ i = 2 ∨ i = 3 ∨ i = 4 ∨ i = 5 := by omega
  have h2 : j = 0 ∨ j = 1 ∨ j = 2 ∨ j = 3 ∨ j = 4 ∨ j = 5 := by omega
  rcases h1 with rfl | rfl | rfl | rfl | rfl | rfl <;> rcases h2 with rfl | rfl | rfl | rfl | rfl | rfl <;> simp [width] at h ⊢

theorem Box.keepR {w w' : World} {g b : Nat} {t : TypeId} {cs : Array Value} (h : Box w b t cs) (k : KeepsR g w w') (hne : b ≠ g) : Box w' b t cs := h.keep k hne
theorem KeepsR.grew {g : Nat} {a w w' : World} (h : KeepsR g a w) (k : Grew w w') : KeepsR g a w' := Keeps.grew h k
theorem Grew.keepsR {g : Nat} {a w : World} (k : Grew a w) : KeepsR g a w := Grew.keeps k

end Go.Proofs.YtggnifejlheebaaDoor
namespace Go.Proofs.YtggnifejlheebaaDoor
open Go.RowKit Pl

theorem step_back (d la be : Int) : wrap64 (la + wrap64 (wrap64 (la - be) + d)) = wrap64 (d + 2 * la - be) := by unfold wrap64; omega
theorem step_next (d la be : Int) : wrap64 (wrap64 (la - be) + d) = wrap64 (wrap64 (d + 2 * la - be) - la) := by unfold wrap64; omega

end Go.Proofs.YtggnifejlheebaaDoor
