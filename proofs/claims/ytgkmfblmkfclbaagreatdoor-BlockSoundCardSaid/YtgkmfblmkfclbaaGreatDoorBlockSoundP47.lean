/- codec.Decode: the claims of bytes, or an error. -/
import Derived.Test.YtgkmfblmkfclbaaGreatDoorBlockSoundP11
import Derived.Test.YtgkmfblmkfclbaaGreatDoorBlockSoundP10
import Derived.Test.YtgkmfblmkfclbaaGreatDoorBlockSoundP18
namespace Go.Proofs.YtgkmfblmkfclbaaGreatDoor
open Go.RowKit Pl

def DecPost (w : World) (o : Option (List Clm)) (e : Ending) (w' : World) : Prop :=
  Grew w w' ∧
  match o with
  | some l => ∃ v', e = .returned (.tuple #[v', .int .i64 0]) ∧ MineC w' w.heap.size v' l
  | none => e = .returned (.tuple #[.slice none 0 0, .int .i64 2])

/- the numbers of the next claim as they are reckoned -/
theorem wd0 (b a d : Clm) : wrap64 (wrap64 (d.1 + wrap64 (2 * a.1)) - b.1) = (nextC b a d).1 := by unfold nextC wrap64; simp only; omega
theorem wd1 (b a d : Clm) : wrap64 (wrap64 ((nextC b a d).1 + d.2.1) + wrap64 (a.2.1 - a.1)) = (nextC b a d).2.1 := by
  unfold nextC; simp only; generalize wrap64 (d.1 + 2 * a.1 - b.1) = x; unfold wrap64; omega
theorem wd2 (b a d : Clm) : wrap64 (d.2.2.1 + a.2.2.1) = (nextC b a d).2.2.1 := rfl
theorem wd3 (b a d : Clm) : wrap64 (wrap64 ((nextC b a d).2.2.1 + d.2.2.2) + wrap64 (a.2.2.2 - a.2.2.1)) = (nextC b a d).2.2.2 := by
  unfold nextC; simp only; generalize wrap64 (d.2.2.1 + a.2.2.1) = x; unfold wrap64; omega

theorem setC_cells (c : Clm) (j : Nat) (hj : j < 4) (d : Int) : (cells4 c).toArray.setIfInBounds j (.int .i64 d) = (cells4 (setC c j d)).toArray := by
  have : j = 0 ∨ j = 1 ∨ j = 2 ∨ j = 3 := by omega
  rcases this with rfl | rfl | rfl | rfl <;> rfl
theorem cells4_some (c : Clm) (j : Nat) (hj : j < 4) : ∃ n : Int, (cells4 c).toArray[j]? = some (.int .i64 n) := by
  have : j = 0 ∨ j = 1 ∨ j = 2 ∨ j = 3 := by omega
  rcases this with rfl | rfl | rfl | rfl <;> exact ⟨_, rfl⟩
theorem finC_none {N : Nat} {t : List Bool} (h : dreads N zc zc t = none) : finC N t = none := by unfold finC; rw [h]
theorem finC_yes {N : Nat} {t r : List Bool} {l : List Clm} (h : dreads N zc zc t = some (l, r)) (hp : padded r) : finC N t = some l := by unfold finC; rw [h]; simp only; rw [if_pos hp]
theorem finC_no {N : Nat} {t r : List Bool} {l : List Clm} (h : dreads N zc zc t = some (l, r)) (hp : ¬ padded r) : finC N t = none := by unfold finC; rw [h]; simp only; rw [if_neg hp]

theorem BR.grew {w w' : World} {base g : Nat} {v : Value} {bs : List Nat} {a : Nat} {er : Int} (h : BR w base g v bs a er) (hk : Grew w w') : BR w' base g v bs a er := h.keep hk (fun e => e) (fun _ _ e => e)
theorem MineC.keepR {w w' : World} {base g : Nat} {t : TypeId} {v : Value} {cs : List Clm} {xs : Array Value} (h : MineC w base v cs) (k : KeepsR g w w') (hb : Box w g t xs) (hne : 82 ≠ t) : MineC w' base v cs :=
  h.keep k fun i hi e1 => by subst e1; exact h.ne_box hi hb hne rfl
theorem Box.keepRd {w w' : World} {g k : Nat} {t u : TypeId} {cs xs : Array Value} (hb : Box w k t cs) (h : KeepsR g w w') (hg : Box w g u xs) (hne : t ≠ u) : Box w' k t cs :=
  hb.keep h fun e => hb.ne_ hg hne e
theorem BR.asideC {w w' : World} {base g base' : Nat} {v u : Value} {bs : List Nat} {a : Nat} {er : Int} {cs : List Clm} (h : BR w base g v bs a er) (hm : MineC w base' u cs) (hk : Keeps (fun i => u.ownBlock = some i) w w') : BR w' base g v bs a er :=
  ⟨h.box.keep hk (fun e1 => hm.ne_box e1 h.box (by decide) rfl), h.row.keep hk (fun k hk e1 => by
    rcases hm.form with ⟨rfl, _⟩ | ⟨g', cap, cur, rfl, _, hbox, _⟩
    · cases e1
    · have : g' = k := by simpa [Value.ownBlock] using e1
      subst this
      exact h.row.ne_box hk hbox (by decide) rfl), h.bytes, h.small, h.here⟩
theorem BR.aside1 {w w' : World} {base g g' : Nat} {v : Value} {bs : List Nat} {a : Nat} {er : Int} {t : TypeId} {xs : Array Value} (h : BR w base g v bs a er) (hb : Box w g' t xs) (h1 : t ≠ 5) (h2 : t ≠ 141) (hk : Keeps (fun i => i = g') w w') : BR w' base g v bs a er :=
  ⟨h.box.keep hk (fun e => hb.ne_ h.box h2 e.symm), h.row.keep hk (fun _ hk e => h.row.ne_box hk hb (fun e1 => h1 e1.symm) e), h.bytes, h.small, h.here⟩

set_option maxHeartbeats 6400000 in
set_option maxRecDepth 100000 in
theorem decode_short (v : Value) (bs : List Nat) (w : World) (h : Rd w w.heap.size v (bs.map vb)) (hb : Bytes bs) (hs : bs.length ≤ 100000000) (ht : Tab w w.heap.size)
    (hp : parse (bitsOf bs) = none) : Calls Tryz.prog 42 #[v] w (DecPost w none) := by
  have HR := Lib.hid (bread_any v bs w h hb (by omega))
  have hb0 : (bitsOf bs).drop 0 = bitsOf bs := rfl
  have HP := Lib.hid hp
  clear hp
  go_enter Tryz.func42, Tryz.ntmps42
  go_wp2_with fail
  refine HR.out.mono ?_
  rintro e w2 ⟨g, v2, rfl, k1, k2, k3⟩
  have HRd := Lib.hid (read_any g w.heap.size v2 bs 0 w2 k1 k2 (ht.grew k3))
  rw [hb0, HP.out] at HRd
  go_wp2_with fail
  refine HRd.out.mono ?_
  rintro e w3 ⟨m1, rfl⟩
  go_wp2_with fail
  go_ret2
  exact ⟨k3.thenR m1 k2, rfl⟩

set_option maxHeartbeats 6400000 in
set_option maxRecDepth 100000 in
theorem decode_range (v : Value) (bs : List Nat) (w : World) (h : Rd w w.heap.size v (bs.map vb)) (hb : Bytes bs) (hs : bs.length ≤ 100000000) (ht : Tab w w.heap.size)
    (n : Int) (t : List Bool) (hp : parse (bitsOf bs) = some (n, t)) (hn : n < 0 ∨ 4096 < n) : Calls Tryz.prog 42 #[v] w (DecPost w none) := by
  have HR := Lib.hid (bread_any v bs w h hb (by omega))
  have hb0 : (bitsOf bs).drop 0 = bitsOf bs := rfl
  have HP := Lib.hid hp
  clear hp
  by_cases hn0 : n < 0
  · have hdn : decide (n < 0) = true := by simp [hn0]
    clear hn
    go_enter Tryz.func42, Tryz.ntmps42
    go_wp2_with fail
    refine HR.out.mono ?_
    rintro e w2 ⟨g, v2, rfl, k1, k2, k3⟩
    have HRd := Lib.hid (read_any g w.heap.size v2 bs 0 w2 k1 k2 (ht.grew k3))
    rw [hb0, HP.out] at HRd
    go_wp2_with fail
    refine HRd.out.mono ?_
    rintro e w3 ⟨m1, rfl, a, m2, m3⟩
    clear m3
    go_wp2_with fail
    go_ret2
    exact ⟨k3.thenR m1 k2, rfl⟩
  · have hdn : decide (n < 0) = false := by simp; omega
    have hdm : decide ((4096 : Int) < n) = true := by simp; omega
    clear hn hn0
    go_enter Tryz.func42, Tryz.ntmps42
    go_wp2_with fail
    refine HR.out.mono ?_
    rintro e w2 ⟨g, v2, rfl, k1, k2, k3⟩
    have HRd := Lib.hid (read_any g w.heap.size v2 bs 0 w2 k1 k2 (ht.grew k3))
    rw [hb0, HP.out] at HRd
    go_wp2_with fail
    refine HRd.out.mono ?_
    rintro e w3 ⟨m1, rfl, a, m2, m3⟩
    clear m3
    go_wp2_with fail
    go_ret2
    exact ⟨k3.thenR m1 k2, rfl⟩

set_option maxHeartbeats 12800000 in
set_option maxRecDepth 100000 in
theorem decode_loop (v : Value) (bs : List Nat) (w : World) (h : Rd w w.heap.size v (bs.map vb)) (hb : Bytes bs) (hs : bs.length ≤ 100000000) (ht : Tab w w.heap.size)
    (N : Nat) (t : List Bool) (hp : parse (bitsOf bs) = some ((N : Int), t)) (hN : N ≤ 4096) : Calls Tryz.prog 42 #[v] w (DecPost w (finC N t)) := by
  have HR := Lib.hid (bread_any v bs w h hb (by omega))
  have hb0 : (bitsOf bs).drop 0 = bitsOf bs := rfl
  have HP := Lib.hid hp
  have HT := Lib.hid ht
  clear hp ht
  have hdn : decide ((N : Int) < 0) = false := by simp
  have hdm : decide ((4096 : Int) < (N : Int)) = false := by simp; omega
  go_enter Tryz.func42, Tryz.ntmps42
  go_wp2_with fail
  refine HR.out.mono ?_
  rintro e w2 ⟨g, v2, rfl, k1, k2, k3⟩
  have HRd := Lib.hid (read_any g w.heap.size v2 bs 0 w2 k1 k2 (HT.out.grew k3))
  rw [hb0, HP.out] at HRd
  go_wp2_with fail
  refine HRd.out.mono ?_
  rintro e w3 ⟨m1, rfl, a, m2, m3⟩
  have M3 := Lib.hid m3
  clear m3
  have hG3 := k3.thenR m1 k2
  have hsz3 := hG3.size
  clear HRd HR k1 k3 m1 h
  have hb8 : Box ((w3.alloc (.cells #[.int .i64 0, .int .i64 0, .int .i64 0, .int .i64 0] 82)).alloc (.cells #[.int .i64 0, .int .i64 0, .int .i64 0, .int .i64 0] 82)) w3.heap.size 82 (cells4 zc).toArray := (Box.new w3 _ _).alloc _
  have hb9 : Box ((w3.alloc (.cells #[.int .i64 0, .int .i64 0, .int .i64 0, .int .i64 0] 82)).alloc (.cells #[.int .i64 0, .int .i64 0, .int .i64 0, .int .i64 0] 82)) (w3.heap.size + 1) 82 (cells4 zc).toArray := by
    have := Box.new (w3.alloc (.cells #[.int .i64 0, .int .i64 0, .int .i64 0, .int .i64 0] 82)) 82 (cells4 zc).toArray
    rw [World.size_alloc] at this
    exact this
  have H8 := Lib.hid hb8
  have H9 := Lib.hid hb9
  have HB2 := Lib.hid ((m2.alloc (.cells #[.int .i64 0, .int .i64 0, .int .i64 0, .int .i64 0] 82)).alloc (.cells #[.int .i64 0, .int .i64 0, .int .i64 0, .int .i64 0] 82))
  have HG2 := Lib.hid ((hG3.alloc (.cells #[.int .i64 0, .int .i64 0, .int .i64 0, .int .i64 0] 82)).alloc (.cells #[.int .i64 0, .int .i64 0, .int .i64 0, .int .i64 0] 82))
  have hglt : g < w3.heap.size := m2.box.lt
  clear hb8 hb9 m2 hG3
  go_wp2_with fail
  go_loopw [7, 31] (fun x i wr => ∃ (j m : Nat) (A : Option Addr) (c a : Nat) (la be : Clm) (ac : List Clm), j ≤ N ∧ i = .int .i64 j ∧ x = .slice A m c ∧ ac.length = j ∧ BR wr w.heap.size g v2 bs a 0 ∧ MineC wr w.heap.size (.slice A m c) ac ∧ Off (.slice A m c) w3.heap.size ∧ Off (.slice A m c) (w3.heap.size + 1) ∧
      Box wr w3.heap.size 82 (cells4 la).toArray ∧ Box wr (w3.heap.size + 1) 82 (cells4 be).toArray ∧ Grew w wr ∧ RestC N t j be la ((bitsOf bs).drop a) ac)
    (fun _ i _ => N - (intOf i).toNat)
  case atStart => exact ⟨0, 0, none, 0, a, zc, zc, [], by omega, rfl, rfl, rfl, HB2.out, MineC.nil _ _, Off.nil _, Off.nil _, H8.out, H9.out, HG2.out, by rw [← M3.out]; exact RestC.start _ _⟩
  case round =>
    clear H8 H9 HB2 HG2 M3 a
    obtain ⟨j, m, A, c, a, la, be, ac, hj, rfl, rfl, hacl, hB, hM, hO8, hO9, hb8, hb9, hG, hR⟩ := hrel
    have HAC := Lib.hid hacl
    have HRS := Lib.hid hR
    clear hacl hR
    by_cases hlt : j < N
    · obtain ⟨wo, rfl⟩ : ∃ wo : World, wo = wr := ⟨_, rfl⟩
      have hb10 : Box (wo.alloc (.cells #[.int .i64 0, .int .i64 0, .int .i64 0, .int .i64 0] 124)) wo.heap.size 124 (cells4 zc).toArray := Box.new wo _ _
      have HB0 := Lib.hid (hB.alloc (.cells #[.int .i64 0, .int .i64 0, .int .i64 0, .int .i64 0] 124))
      have HM0 := Lib.hid (hM.alloc (.cells #[.int .i64 0, .int .i64 0, .int .i64 0, .int .i64 0] 124))
      have H80 := Lib.hid (hb8.alloc (.cells #[.int .i64 0, .int .i64 0, .int .i64 0, .int .i64 0] 124))
      have H90 := Lib.hid (hb9.alloc (.cells #[.int .i64 0, .int .i64 0, .int .i64 0, .int .i64 0] 124))
      have HG0 := Lib.hid (hG.alloc (.cells #[.int .i64 0, .int .i64 0, .int .i64 0, .int .i64 0] 124))
      have H10 := Lib.hid hb10
      have hszo := hG.size
      have hlt9 := hb9.lt
      obtain ⟨s0, hs0⟩ : ∃ s0, s0 = (bitsOf bs).drop a := ⟨_, rfl⟩
      have HS0 := Lib.hid hs0
      rw [← hs0] at HRS
      clear hs0 hB hM hb8 hb9 hG hb10
      go_wp2_with fail
      go_loopw [33] (fun i wr => ∃ (k a : Nat) (c4 : Clm), k ≤ 4 ∧ i = .int .i64 k ∧ BR wr w.heap.size g v2 bs a 0 ∧ Box wr wo.heap.size 124 (cells4 c4).toArray ∧ MineC wr w.heap.size (.slice A m c) ac ∧ Box wr w3.heap.size 82 (cells4 la).toArray ∧ Box wr (w3.heap.size + 1) 82 (cells4 be).toArray ∧ Grew w wr ∧ P4 s0 k c4 ((bitsOf bs).drop a))
        (fun i _ => 4 - (intOf i).toNat)
      case atStart => exact ⟨0, a, zc, by omega, rfl, HB0.out, H10.out, HM0.out, H80.out, H90.out, HG0.out, by rw [← HS0.out]; exact P4.start _ _⟩
      case round =>
        clear HB0 H10 HM0 H80 H90 HG0 HS0 a
        obtain ⟨k, a, d, hk, rfl, hB, hb10, hM, hb8, hb9, hG, hP4⟩ := hrel
        have HP4 := Lib.hid hP4
        clear hP4
        by_cases hlt4 : k < 4
        · have HRd := Lib.hid (read_any g w.heap.size v2 bs a wr hB k2 (HT.out.grew hG))
          obtain ⟨n10, hn10⟩ := cells4_some d k hlt4
          cases hq : parse ((bitsOf bs).drop a) with
          | none =>
            have HF := Lib.hid (finC_none (HRS.out.fail hlt (HP4.out.fail hlt4 hq)))
            rw [hq] at HRd
            clear hq
            have KB := Lib.hid hb10
            have KR := Lib.hid hB.box
            clear hM hb8 hb9 hb10 hB
            go_wp2_with fail
            refine HRd.out.mono ?_
            rintro e w4 ⟨p1, rfl⟩
            have hc10 := ((KB.out.keepRd p1 KR.out (by decide)).cell k).trans hn10
            have hf10 := (KB.out.keepRd p1 KR.out (by decide)).frozen k
            have hG4 := hG.thenR p1 k2
            have hG5 : Grew w (w4.setCell ⟨wo.heap.size, k, none⟩ (.int .i64 0)) := Keeps.setCell hG4 (.inr hszo) _
            have G5 := Lib.hid hG5
            clear p1 HRd hG5 hG4 hG hn10
            go_wp2_with fail
            go_ret2
            rw [HF.out]
            exact ⟨G5.out, rfl⟩
          | some q =>
            obtain ⟨d1, t2⟩ := q
            have HST := Lib.hid (HP4.out.step hlt4 hq)
            rw [hq] at HRd
            clear hq
            have KB := Lib.hid hb10
            have KR := Lib.hid hB.box
            have KM := Lib.hid hM
            have K8 := Lib.hid hb8
            have K9 := Lib.hid hb9
            clear hM hb8 hb9 hb10 hB
            go_wp2_with fail
            refine HRd.out.mono ?_
            rintro e w4 ⟨p1, rfl, a2, p2, p3⟩
            have hbx := KB.out.keepRd p1 KR.out (by decide)
            have hc10 := (hbx.cell k).trans hn10
            have hf10 := hbx.frozen k
            have hG4 := hG.thenR p1 k2
            have m1 := hbx.set_ k (.int .i64 d1)
            rw [setC_cells d k hlt4 d1] at m1
            have hkk : Keeps (fun i => i = wo.heap.size) w4 (w4.setCell ⟨wo.heap.size, k, none⟩ (.int .i64 d1)) := (Keeps.refl (fun i => i = wo.heap.size) w4).setCell (p := ⟨wo.heap.size, k, none⟩) (.inl rfl) _
            have m2 := p2.aside1 hbx (by decide) (by decide) hkk
            have m3 := (KM.out.keepR p1 KR.out (by decide)).keep hkk (fun i hi e => (KM.out.keepR p1 KR.out (by decide)).ne_box hi hbx (by decide) e)
            have m8 := (K8.out.keepRd p1 KR.out (by decide)).keep hkk (fun e => by omega)
            have m9 := (K9.out.keepRd p1 KR.out (by decide)).keep hkk (fun e => by omega)
            have mG : Grew w (w4.setCell ⟨wo.heap.size, k, none⟩ (.int .i64 d1)) := Keeps.setCell hG4 (.inr hszo) _
            rw [p3] at HST
            have M1 := Lib.hid m1
            have M2 := Lib.hid m2
            have M3 := Lib.hid m3
            have M8 := Lib.hid m8
            have M9 := Lib.hid m9
            have MG := Lib.hid mG
            clear p1 p2 p3 HRd hG4 hG hn10 hbx m1 m2 m3 m8 m9 mG hkk
            go_wp2_with fail
            go_roundw
            case rel => exact ⟨k + 1, a2, _, by omega, by go_num, M2.out, M1.out, M3.out, M8.out, M9.out, MG.out, HST.out⟩
            case measure => simp [intOf]; omega
        · obtain rfl : k = 4 := by omega
          have HDN := Lib.hid HP4.out.done
          have hszr := hG.size
          have hltr8 := hb9.lt
          have hlt10 := hb10.lt
          have hltr7 := hb8.lt
          obtain ⟨c0, c1, c2, c3⟩ := hb10.four
          obtain ⟨f0, f1, f2, f3⟩ := hb8.four
          obtain ⟨z0, -, -, -⟩ := hb9.four
          have hbx : Box (wr.alloc (.cells #[.int .i64 (nextC be la d).1, .int .i64 (nextC be la d).2.1, .int .i64 (nextC be la d).2.2.1, .int .i64 (nextC be la d).2.2.2] 82)) wr.heap.size 82 (cells4 (nextC be la d)).toArray := Box.new wr _ _
          have HX := Lib.hid hbx
          have HB1 := Lib.hid (hB.alloc (.cells #[.int .i64 (nextC be la d).1, .int .i64 (nextC be la d).2.1, .int .i64 (nextC be la d).2.2.1, .int .i64 (nextC be la d).2.2.2] 82))
          have HM1 := Lib.hid (hM.alloc (.cells #[.int .i64 (nextC be la d).1, .int .i64 (nextC be la d).2.1, .int .i64 (nextC be la d).2.2.1, .int .i64 (nextC be la d).2.2.2] 82))
          have H81 := Lib.hid (hb8.alloc (.cells #[.int .i64 (nextC be la d).1, .int .i64 (nextC be la d).2.1, .int .i64 (nextC be la d).2.2.1, .int .i64 (nextC be la d).2.2.2] 82))
          have H91 := Lib.hid (hb9.alloc (.cells #[.int .i64 (nextC be la d).1, .int .i64 (nextC be la d).2.1, .int .i64 (nextC be la d).2.2.1, .int .i64 (nextC be la d).2.2.2] 82))
          have HG1 := Lib.hid (hG.alloc (.cells #[.int .i64 (nextC be la d).1, .int .i64 (nextC be la d).2.1, .int .i64 (nextC be la d).2.2.1, .int .i64 (nextC be la d).2.2.2] 82))
          have hOx : Off (.slice A m c) wr.heap.size := fun q hq e => by have := (hM.lt q hq).2; omega
          have HEc := encodable_any (nextC be la d) (wr.alloc (.cells #[.int .i64 (nextC be la d).1, .int .i64 (nextC be la d).2.1, .int .i64 (nextC be la d).2.2.1, .int .i64 (nextC be la d).2.2.2] 82))
          unfold vc cells4 at HEc
          have HEC := Lib.hid HEc
          have HOX := Lib.hid hOx
          clear HEc hOx hbx hB hb10 hM hb8 hb9 hG
          by_cases hok : okC (nextC be la d)
          · have HRS2 := Lib.hid (HRS.out.step hlt HDN.out hok)
            have HD := Lib.hid (decide_eq_true hok)
            clear hok
            go_wp2_with fail
            rw [wd0 be la d, wd1 be la d, wd2 be la d, wd3 be la d]
            refine HEC.out.mono ?_
            rintro e w5 ⟨rfl, q1⟩
            rw [HD.out]
            generalize nextC be la d = x at *
            have hx5 := HX.out.grew q1
            have hB5 := HB1.out.grew q1
            have hM5 := HM1.out.grew q1
            have h85 := H81.out.grew q1
            have h95 := H91.out.grew q1
            have hG5 := HG1.out.trans q1
            have hs5 := hG5.size
            have hz5 : wr.heap.size < w5.heap.size := hx5.lt
            clear q1 HX HB1 HM1 H81 H91 HG1 HEC HD c0 c1 c2 c3 f0 f1 f2 f3 z0
            obtain ⟨x0, x1, x2, x3⟩ := hx5.four
            have hn5 : ac.length < 1099511627776 := by rw [HAC.out]; omega
            go_wp2_with (at_builtin; refine app_oneC rfl (.tmp 89) (.tmp 91) rfl rfl (hM5.alloc _) w5.heap.size 1 x 82 rfl (Nat.le_refl _) (Box.new w5 82 _) hn5 (by simp; omega) ?_)
            intro r cap w6 hM6 hk6 hr6 hbr6 hlr6
            have hx6 := (hx5.alloc _).asideC HOX.out hk6
            have h86 := (h85.alloc _).asideC hO8 hk6
            have h96 := (h95.alloc _).asideC hO9 hk6
            have hB6 := (hB5.alloc _).asideC (hM5.alloc _) hk6
            have hG6 : Grew w w6 := Keeps.then_ (hG5.alloc _) hk6 fun i hi e => by have := (hM5.lt i e).1; omega
            have hO86 : Off (.slice (some ⟨r, 0, none⟩) (ac.length + 1) cap) w3.heap.size := fun q hq e => by
              have hrq : r = q := by simpa [Value.ownBlock] using hq
              rcases hr6 with h1 | h1
              · exact hO8 _ h1.symm (hrq.trans e)
              · omega
            have hO96 : Off (.slice (some ⟨r, 0, none⟩) (ac.length + 1) cap) (w3.heap.size + 1) := fun q hq e => by
              have hrq : r = q := by simpa [Value.ownBlock] using hq
              rcases hr6 with h1 | h1
              · exact hO9 _ h1.symm (hrq.trans e)
              · omega
            have HM6 := Lib.hid hM6
            have H86 := Lib.hid h86
            have H96 := Lib.hid h96
            have HB6 := Lib.hid hB6
            have HG6 := Lib.hid hG6
            have HO8 := Lib.hid hO86
            have HO9 := Lib.hid hO96
            have HX6 := Lib.hid hx6
            obtain ⟨x0, x1, x2, x3⟩ := hx6.four
            obtain ⟨f0, f1, f2, f3⟩ := h86.four
            clear hM6 hk6 hr6 h86 h96 hB6 hG6 hO86 hO96 hx5 hB5 hM5 h85 h95 hG5 hn5 hx6
            go_wp2_with (refine st4 (.tmp 8) (.tmp 93) w3.heap.size x la 82 rfl rfl rfl rfl H86.out ?_)
            intro wA hA kA
            have HA := Lib.hid hA
            have KA := Lib.hid kA
            have HZA := Lib.hid (H96.out.keep kA (fun e => by omega))
            clear hA kA x0 x1 x2 x3 f0 f1 f2 f3
            go_wp2_with (refine st4 (.tmp 9) (.tmp 94) (w3.heap.size + 1) la be 82 rfl rfl rfl rfl HZA.out ?_)
            intro wB hB kB
            have m1 := HA.out.keep kB (fun e => by omega)
            have m3 := (HB6.out.aside1 H86.out (by decide) (by decide) KA.out).aside1 HZA.out (by decide) (by decide) kB
            have mM := (HM6.out.keep KA.out (fun i hi e => HO8.out i hi e)).keep kB (fun i hi e => HO9.out i hi e)
            have mG : Grew w wB := Keeps.then_ (Keeps.then_ HG6.out KA.out fun i hi e => by omega) kB fun i hi e => by omega
            have M1 := Lib.hid m1
            have M2 := Lib.hid hB
            have M3 := Lib.hid m3
            have MM := Lib.hid mM
            have MG := Lib.hid mG
            clear kB m1 hB m3 mM mG
            go_wp2_with fail
            go_roundw
            case rel => exact ⟨j + 1, _, _, _, a, x, la, ac ++ [x], by omega, by go_num, rfl, by rw [List.length_append, HAC.out]; rfl, M3.out, MM.out, HO8.out, HO9.out, M1.out, M2.out, MG.out, HRS2.out⟩
            case measure => simp [intOf]; omega
          · have HF := Lib.hid (finC_none (HRS.out.out hlt HDN.out hok))
            have HD := Lib.hid (decide_eq_false hok)
            clear hok
            go_wp2_with fail
            rw [wd0 be la d, wd1 be la d, wd2 be la d, wd3 be la d]
            refine HEC.out.mono ?_
            rintro e w5 ⟨rfl, q1⟩
            rw [HD.out]
            have hG5 := HG1.out.trans q1
            clear q1
            go_wp2_with fail
            go_ret2
            rw [HF.out]
            exact ⟨hG5, rfl⟩
    · obtain rfl : j = N := by omega
      have HDN := Lib.hid HRS.out.done
      have HE := Lib.hid (end_any g w.heap.size v2 bs a wr hB)
      clear hb8 hb9
      by_cases hpd : padded ((bitsOf bs).drop a)
      · rw [endCode_yes hpd] at HE
        have HFC := Lib.hid (finC_yes HDN.out hpd)
        clear hpd
        go_wp2_with (go_at_call 67; refine HE.out.mono ?_; rintro e w4 ⟨rfl, n4, rfl⟩)
        go_ret2
        rw [HFC.out]
        exact ⟨hG.drewN _, _, rfl, hM⟩
      · rw [endCode_no hpd] at HE
        have HFC := Lib.hid (finC_no HDN.out hpd)
        clear hpd
        go_wp2_with (go_at_call 67; refine HE.out.mono ?_; rintro e w4 ⟨rfl, n4, rfl⟩)
        go_ret2
        rw [HFC.out]
        exact ⟨hG.drewN _, rfl⟩

theorem decode_any (v : Value) (bs : List Nat) (w : World) (h : Rd w w.heap.size v (bs.map vb)) (hb : Bytes bs) (hs : bs.length ≤ 100000000) (ht : Tab w w.heap.size) :
    Calls Tryz.prog 42 #[v] w (DecPost w (Pl.decode bs)) := by
  cases hp : parse (bitsOf bs) with
  | none =>
    have e : Pl.decode bs = none := by unfold Pl.decode; rw [hp]
    rw [e]
    exact decode_short v bs w h hb hs ht hp
  | some p =>
    obtain ⟨n, t⟩ := p
    by_cases hn : n < 0 ∨ 4096 < n
    · have e : Pl.decode bs = none := by unfold Pl.decode; rw [hp]; simp only; rw [if_pos hn]
      rw [e]
      exact decode_range v bs w h hb hs ht n t hp hn
    · obtain ⟨N, rfl⟩ : ∃ N : Nat, n = (N : Int) := ⟨n.toNat, by omega⟩
      have e : Pl.decode bs = finC N t := by unfold Pl.decode; rw [hp]; simp only; rw [if_neg hn, Int.toNat_natCast]
      rw [e]
      exact decode_loop v bs w h hb hs ht N t hp (by omega)
end Go.Proofs.YtgkmfblmkfclbaaGreatDoor
