/- The reference: four codes; Decode. -/
import Derived.Test.YtjiiiimhegkklaaDoorBlockDecodesP12
import Derived.Test.YtjiiiimhegkklaaDoorBlockDecodesP26
import Derived.Test.YtjiiiimhegkklaaDoorBlockDecodesP27
import Derived.Test.YtjiiiimhegkklaaDoorBlockDecodesP16
import Derived.StillTailTactics
namespace Go.Proofs.YtjiiiimhegkklaaDoor
open Go.RowKit Pl

theorem l4_setC (c : Clm) (j : Nat) (hj : j < 4) (d : Int) : (l4 (setC c j d)).take (j + 1) = (l4 c).take j ++ [d] := by
  have : j = 0 ∨ j = 1 ∨ j = 2 ∨ j = 3 := by omega
  rcases this with rfl | rfl | rfl | rfl <;> rfl
def FourPost (base g : Nat) (v : Value) (s : List Bool) (w : World) (o : Option (Clm × List Bool)) (e : Ending) (w' : World) : Prop :=
  KeepsR g w w' ∧
  match o with
  | some (d, t) => ∃ vl, e = .returned (.tuple #[vl, .bool true]) ∧ Mine w' w.heap.size 3 vl ((l4 d).map vi) ∧ ∃ a, RR w' base g v s a 0 ∧ t = s.drop a
  | none => e = .returned (.tuple #[.slice none 0 0, .bool false])

set_option maxHeartbeats 6400000 in
set_option maxRecDepth 100000 in
theorem four_any (g base : Nat) (v : Value) (s : List Bool) (a : Nat) (w : World) (h : RR w base g v s a 0) :
    Calls Tryd.prog 81 #[.pointer (some ⟨g, 0, none⟩)] w (FourPost base g v s w (parse4 (s.drop a))) := by
  obtain ⟨s0, hs0⟩ : ∃ s0, s0 = s.drop a := ⟨_, rfl⟩
  rw [← hs0]
  have HS0 := Lib.hid hs0
  have H := Lib.hid h
  clear hs0 h
  go_enter Tryd.func81, Tryd.ntmps81
  go_wp2_with fail
  go_loopw [4, 5] (fun x i wr => ∃ (j : Nat) (A : Option Addr) (c a : Nat) (d : Clm), j ≤ 4 ∧ i = .int .i64 j ∧ x = .slice A j c ∧ RR wr base g v s a 0 ∧ Mine wr w.heap.size 3 (.slice A j c) (((l4 d).take j).map vi) ∧ KeepsR g w wr ∧ P4 s0 j d (s.drop a))
    (fun _ i _ => 4 - (intOf i).toNat)
  case atStart => exact ⟨0, none, 0, a, zc, by omega, rfl, rfl, H.out, by simpa using Mine.nil w w.heap.size 3, KeepsR.refl _ _, by rw [← HS0.out]; exact P4.start _ _⟩
  case round =>
    clear H HS0 a
    obtain ⟨j, A, c, a, d, hj, rfl, rfl, hB, hM, hK, hP⟩ := hrel
    have HP := Lib.hid hP
    have hsz := hK.size
    clear hP
    by_cases hlt : j < 4
    · have HRd := Lib.hid (rread_any g base v s a wr hB)
      cases hq : parse (s.drop a) with
      | none =>
        have HF := Lib.hid (HP.out.fail hlt hq)
        rw [hq] at HRd
        clear hq
        go_wp2_with fail
        refine HRd.out.mono ?_
        rintro e w4 ⟨p1, n', rfl⟩
        go_wp2_with fail
        go_ret2
        rw [HF.out]
        exact ⟨hK.trans p1, rfl⟩
      | some q =>
        obtain ⟨d1, t2⟩ := q
        have HST := Lib.hid (HP.out.step hlt hq)
        have HL4 := Lib.hid (l4_setC d j hlt d1)
        have hlj : (((l4 d).take j).map vi).length = j := by simp [l4]; omega
        have HLJ := Lib.hid hlj
        have hbl : (((l4 d).take j).map vi).length < 1099511627776 := by omega
        rw [hq] at HRd
        clear hq hlj
        go_wp2_with fail
        refine HRd.out.mono ?_
        rintro e w4 ⟨p1, rfl, a2, p2, p3⟩
        have hM4 := hM.keepR p1 hB.box (by decide)
        have hK4 := hK.trans p1
        have hsz4 := hK4.size
        rw [p3] at HST
        clear p3 HRd p1 hB hM hK
        go_wp2_with (at_builtin; refine app_one slInt rfl (.tmp 19) (.tmp 21) rfl rfl (hM4.alloc _) w4.heap.size 1 (.int .i64 d1) rfl (Nat.le_refl _) (by simp) (by simp) rfl hbl (by simp; omega) ?_; intro r cap w5 hM5 hk5 hr5 hbr5 hlr5; rw [HLJ.out] at hM5 ⊢)
        have hK5 : KeepsR g w w5 := Keeps.then_ (Keeps.alloc hK4 _) hk5 (fun i hi e => by have := (hM4.lt i e).1; omega)
        have hB5 := (p2.alloc _).aside (hM4.alloc _) (by decide) (by decide) hk5
        have hM6 : Mine w5 w.heap.size 3 (.slice (some ⟨r, 0, none⟩) (j + 1) cap) (((l4 (setC d j d1)).take (j + 1)).map vi) := by
          rw [HL4.out, List.map_append]; exact hM5
        go_roundw
        case rel => exact ⟨j + 1, _, _, a2, _, by omega, by go_num, rfl, hB5, hM6, hK5, HST.out⟩
        case measure => simp [intOf]; omega
    · obtain rfl : j = 4 := by omega
      have HDN := Lib.hid HP.out.done
      rw [List.take_of_length_le (by simp [l4])] at hM
      go_wp2_with fail
      go_ret2
      rw [HDN.out]
      exact ⟨hK, _, rfl, hM, a, hB, rfl⟩
/- the claim of the reference, number by number -/
theorem wr_step (b a d : Clm) : wrap64 (wrap64 (a.1 - b.1) + d.1) = wrap64 ((nextC b a d).1 - a.1) := by unfold nextC; simp only; unfold wrap64; omega
theorem wr0 (b a d : Clm) : wrap64 (a.1 + wrap64 (wrap64 (a.1 - b.1) + d.1)) = (nextC b a d).1 := by unfold nextC; simp only; unfold wrap64; omega
theorem wr1 (b a d : Clm) : wrap64 ((nextC b a d).1 + wrap64 (wrap64 (a.2.1 - a.1) + d.2.1)) = (nextC b a d).2.1 := by
  unfold nextC; simp only; generalize wrap64 (d.1 + 2 * a.1 - b.1) = x; unfold wrap64; omega
theorem wr2 (b a d : Clm) : wrap64 (a.2.2.1 + d.2.2.1) = (nextC b a d).2.2.1 := by unfold nextC; simp only; rw [Int.add_comm]
theorem wr3 (b a d : Clm) : wrap64 ((nextC b a d).2.2.1 + wrap64 (wrap64 (a.2.2.2 - a.2.2.1) + d.2.2.2)) = (nextC b a d).2.2.2 := by
  unfold nextC; simp only; generalize wrap64 (d.2.2.1 + a.2.2.1) = x; unfold wrap64; omega
theorem Box.put1 {w : World} {g : Nat} {t : TypeId} {c : Clm} (h : Box w g t (cells4 c).toArray) (k : Nat) (hk : k < 4) (n : Int) : Box (w.setCell ⟨g, k, none⟩ (.int .i64 n)) g t (cells4 (setC c k n)).toArray := by
  have := h.set_ k (.int .i64 n)
  rwa [setC_cells c k hk n] at this
/- one number stored: the claim that is then there -/
theorem st1c {ops : Array Oper} {rest : List Oper} {o : Oper} {a : Act} {w : World} {Q : Exit → Act → World → Prop} (x y : Operand) (g k : Nat) (hk : k < 4) (n : Int) (d : Clm) (t : TypeId) (hgd : o.guard = none) (ho : o.op = .store 3 x y)
    (hx : a.eval x = .pointer (some ⟨g, k, none⟩)) (hy : a.eval y = .int .i64 n) (hb : Box w g t (cells4 d).toArray)
    (h : ∀ w', Box w' g t (cells4 (setC d k n)).toArray → Keeps (fun i => i = g) w w' → wpList Tryd.prog ops Q rest (a.put o.dst undef) w') : wpList Tryd.prog ops Q (o :: rest) a w := by
  obtain ⟨u, hu⟩ := get4_some d k hk
  have hc := (hb.cell k).trans hu
  have hf := hb.frozen k
  have hk' : Keeps (fun i => i = g) w (w.setCell ⟨g, k, none⟩ (.int .i64 n)) := (Keeps.refl (fun i => i = g) w).setCell (p := ⟨g, k, none⟩) (.inl rfl) _
  refine wpList_plain hgd fun K hK => ?_
  unfold Oper.wp execOp
  simp only [ho, hx, hy]
  go_simp
  exact hK _ _ (h _ (hb.put1 k hk n) hk')
theorem set_all (b a d : Clm) : setC (setC (setC (setC a 0 (nextC b a d).1) 1 (nextC b a d).2.1) 2 (nextC b a d).2.2.1) 3 (nextC b a d).2.2.2 = nextC b a d := rfl
theorem RR.aside1 {w w' : World} {base g g' : Nat} {v : Value} {s : List Bool} {a : Nat} {er : Int} {t : TypeId} {xs : Array Value} (h : RR w base g v s a er) (hb : Box w g' t xs) (h1 : t ≠ 4) (h2 : t ≠ 119) (hk : Keeps (fun i => i = g') w w') : RR w' base g v s a er :=
  ⟨h.box.keep hk (fun e => hb.ne_ h.box h2 e.symm), h.row.keep hk (fun _ hk e => h.row.ne_box hk hb (fun e1 => h1 e1.symm) e), h.small, h.here⟩
theorem RR.asideC {w w' : World} {base g base' : Nat} {v u : Value} {s : List Bool} {a : Nat} {er : Int} {cs : List Clm} (h : RR w base g v s a er) (hm : MineC w base' u cs) (hk : Keeps (fun i => u.ownBlock = some i) w w') : RR w' base g v s a er :=
  ⟨h.box.keep hk (fun e1 => hm.ne_box e1 h.box (by decide) rfl), h.row.keep hk (fun k hk e1 => by
    rcases hm.form with ⟨rfl, _⟩ | ⟨g', cap, cur, rfl, _, hbox, _⟩
    · cases e1
    · have : g' = k := by simpa [Value.ownBlock] using e1
      subst this
      exact h.row.ne_box hk hbox (by decide) rfl), h.small, h.here⟩
theorem finCR_none {bs : List Nat} {N : Nat} {t : List Bool} (h : creads N zc zc t = none) : finCR bs N t = none := by unfold finCR; rw [h]
theorem finCR_yes {bs : List Nat} {N : Nat} {t r : List Bool} {l : List Clm} (h : creads N zc zc t = some (l, r)) (hp : encE l = 0 ∧ encB l = bs) : finCR bs N t = some l := by unfold finCR; rw [h]; simp only; rw [if_pos hp]
theorem finCR_no {bs : List Nat} {N : Nat} {t r : List Bool} {l : List Clm} (h : creads N zc zc t = some (l, r)) (hp : ¬ (encE l = 0 ∧ encB l = bs)) : finCR bs N t = none := by unfold finCR; rw [h]; simp only; rw [if_neg hp]
set_option maxHeartbeats 12800000 in
set_option maxRecDepth 100000 in
theorem rdec_short (v : Value) (bs : List Nat) (w : World) (h : Rd w w.heap.size v (bs.map vb)) (hb : Bytes bs) (hs : bs.length ≤ 100000) (hp : parse (bitsOf bs) = none) : Calls Tryd.prog 44 #[v] w (DecPost w none) := by
  have HU := Lib.hid (unpack_any v bs w h hb (by omega))
  have hbl := bitsOf_length bs
  have HBL := Lib.hid hbl
  have hbs : (bitsOf bs).length ≤ 800000 := by omega
  have hb0 : (bitsOf bs).drop 0 = bitsOf bs := rfl
  have HP := Lib.hid hp
  clear hbl hp
  go_enter Tryd.func44, Tryd.ntmps44
  go_wp2_with (go_at_call 75; refine HU.out.mono ?_; rintro e w2 ⟨v2, rfl, k1, k2⟩; obtain ⟨A2, n2, c2, rfl, hn2⟩ := k1.slice; have HN2 := Lib.hid hn2; clear hn2)
  have hR2 : RR (w2.alloc (.cells #[.slice A2 n2 c2, .int .i64 0, .int .i64 0] 119)) w.heap.size w2.heap.size (.slice A2 n2 c2) (bitsOf bs) 0 0 := ⟨Box.new _ _ _, k1.alloc _, by omega, by omega⟩
  have HRd := Lib.hid (rread_any _ _ _ _ 0 _ hR2)
  rw [hb0, HP.out] at HRd
  refine HRd.out.mono ?_
  rintro e w3 ⟨m1, n', rfl⟩
  go_wp2_with fail
  go_ret2
  exact ⟨(k2.alloc _).thenR m1 k2.size, rfl⟩
set_option maxHeartbeats 12800000 in
set_option maxRecDepth 100000 in
theorem rdec_neg (v : Value) (bs : List Nat) (w : World) (h : Rd w w.heap.size v (bs.map vb)) (hb : Bytes bs) (hs : bs.length ≤ 100000) (n : Int) (t : List Bool) (hp : parse (bitsOf bs) = some (n, t)) (hn : n < 0) : Calls Tryd.prog 44 #[v] w (DecPost w none) := by
  have HU := Lib.hid (unpack_any v bs w h hb (by omega))
  have hbl := bitsOf_length bs
  have HBL := Lib.hid hbl
  have hbs : (bitsOf bs).length ≤ 800000 := by omega
  have hb0 : (bitsOf bs).drop 0 = bitsOf bs := rfl
  have HP := Lib.hid hp
  clear hbl hp
  have hdn : decide (n < 0) = true := by simp [hn]
  go_enter Tryd.func44, Tryd.ntmps44
  go_wp2_with (go_at_call 75; refine HU.out.mono ?_; rintro e w2 ⟨v2, rfl, k1, k2⟩; obtain ⟨A2, n2, c2, rfl, hn2⟩ := k1.slice; have HN2 := Lib.hid hn2; clear hn2)
  have hR2 : RR (w2.alloc (.cells #[.slice A2 n2 c2, .int .i64 0, .int .i64 0] 119)) w.heap.size w2.heap.size (.slice A2 n2 c2) (bitsOf bs) 0 0 := ⟨Box.new _ _ _, k1.alloc _, by omega, by omega⟩
  have HRd := Lib.hid (rread_any _ _ _ _ 0 _ hR2)
  rw [hb0, HP.out] at HRd
  refine HRd.out.mono ?_
  rintro e w3 ⟨m1, rfl, a, m2, m3⟩
  clear m3
  go_wp2_with fail
  go_ret2
  exact ⟨(k2.alloc _).thenR m1 k2.size, rfl⟩
set_option maxHeartbeats 12800000 in
set_option maxRecDepth 100000 in
theorem rdec_big (v : Value) (bs : List Nat) (w : World) (h : Rd w w.heap.size v (bs.map vb)) (hb : Bytes bs) (hs : bs.length ≤ 100000) (n : Int) (t : List Bool) (hp : parse (bitsOf bs) = some (n, t)) (hn : 4096 < n) : Calls Tryd.prog 44 #[v] w (DecPost w none) := by
  have HU := Lib.hid (unpack_any v bs w h hb (by omega))
  have hbl := bitsOf_length bs
  have HBL := Lib.hid hbl
  have hbs : (bitsOf bs).length ≤ 800000 := by omega
  have hb0 : (bitsOf bs).drop 0 = bitsOf bs := rfl
  have HP := Lib.hid hp
  clear hbl hp
  have hdn : decide (n < 0) = false := by simp; omega
  have hdm : decide ((4096 : Int) < n) = true := by simp [hn]
  go_enter Tryd.func44, Tryd.ntmps44
  go_wp2_with (go_at_call 75; refine HU.out.mono ?_; rintro e w2 ⟨v2, rfl, k1, k2⟩; obtain ⟨A2, n2, c2, rfl, hn2⟩ := k1.slice; have HN2 := Lib.hid hn2; clear hn2)
  have hR2 : RR (w2.alloc (.cells #[.slice A2 n2 c2, .int .i64 0, .int .i64 0] 119)) w.heap.size w2.heap.size (.slice A2 n2 c2) (bitsOf bs) 0 0 := ⟨Box.new _ _ _, k1.alloc _, by omega, by omega⟩
  have HRd := Lib.hid (rread_any _ _ _ _ 0 _ hR2)
  rw [hb0, HP.out] at HRd
  refine HRd.out.mono ?_
  rintro e w3 ⟨m1, rfl, a, m2, m3⟩
  clear m3
  go_wp2_with fail
  go_ret2
  exact ⟨(k2.alloc _).thenR m1 k2.size, rfl⟩
set_option maxHeartbeats 12800000 in
set_option maxRecDepth 100000 in
theorem rdec_loop (v : Value) (bs : List Nat) (w : World) (h : Rd w w.heap.size v (bs.map vb)) (hb : Bytes bs) (hs : bs.length ≤ 100000) (N : Nat) (t : List Bool) (hp : parse (bitsOf bs) = some ((N : Int), t)) (hN : N ≤ 4096) : Calls Tryd.prog 44 #[v] w (DecPost w (finCR bs N t)) := by
  have HU := Lib.hid (unpack_any v bs w h hb (by omega))
  have hbl := bitsOf_length bs
  have HBL := Lib.hid hbl
  have hbs : (bitsOf bs).length ≤ 800000 := by omega
  have hb0 : (bitsOf bs).drop 0 = bitsOf bs := rfl
  have HP := Lib.hid hp
  clear hbl hp
  have hdn : decide ((N : Int) < 0) = false := by simp
  have hdm : decide ((4096 : Int) < (N : Int)) = false := by simp; omega
  go_enter Tryd.func44, Tryd.ntmps44
  go_wp2_with (go_at_call 75; refine HU.out.mono ?_; rintro e w2 ⟨v2, rfl, k1, k2⟩; obtain ⟨A2, n2, c2, rfl, hn2⟩ := k1.slice; have HN2 := Lib.hid hn2; clear hn2)
  have hR2 : RR (w2.alloc (.cells #[.slice A2 n2 c2, .int .i64 0, .int .i64 0] 119)) w.heap.size w2.heap.size (.slice A2 n2 c2) (bitsOf bs) 0 0 := ⟨Box.new _ _ _, k1.alloc _, by omega, by omega⟩
  have HRd := Lib.hid (rread_any _ _ _ _ 0 _ hR2)
  rw [hb0, HP.out] at HRd
  refine HRd.out.mono ?_
  rintro e w3 ⟨m1, rfl, a, m2, m3⟩
  have M3 := Lib.hid m3
  have hG3 := (k2.alloc (.cells #[.slice A2 n2 c2, .int .i64 0, .int .i64 0] 119)).thenR m1 k2.size
  have hg : w.heap.size ≤ w2.heap.size := k2.size
  have hglt : w2.heap.size < w3.heap.size := m2.box.lt
  have hsz3 := hG3.size
  clear m3 k1 k2 m1 hR2 HRd HU
  generalize w2.heap.size = g at *
  have H8 := Lib.hid (Box.new w3 24 (cells4 zc).toArray)
  have HB2 := Lib.hid (m2.alloc (.cells #[.int .i64 0, .int .i64 0, .int .i64 0, .int .i64 0] 24))
  have HG2 := Lib.hid (hG3.alloc (.cells #[.int .i64 0, .int .i64 0, .int .i64 0, .int .i64 0] 24))
  clear m2 hG3
  go_wp2_with fail
  go_loopw [7, 9, 10] (fun x st i wr => ∃ (j m : Nat) (A : Option Addr) (c a : Nat) (la be : Clm) (ac : List Clm), j ≤ N ∧ i = .int .i64 j ∧ x = .slice A m c ∧ st = .int .i64 (wrap64 (la.1 - be.1)) ∧ ac.length = j ∧ RR wr w.heap.size g (.slice A2 n2 c2) (bitsOf bs) a 0 ∧ MineC wr w.heap.size (.slice A m c) ac ∧ Off (.slice A m c) w3.heap.size ∧
      Box wr w3.heap.size 24 (cells4 la).toArray ∧ Grew w wr ∧ RestR N t j be la ((bitsOf bs).drop a) ac)
    (fun _ _ i _ => N - (intOf i).toNat)
  case atStart => exact ⟨0, 0, none, 0, a, zc, zc, [], by omega, rfl, rfl, by simp [zc, wrap64], rfl, HB2.out, MineC.nil _ _, Off.nil _, H8.out, HG2.out, by rw [← M3.out]; exact RestR.start _ _⟩
  case round =>
    clear H8 HB2 HG2 M3 a
    obtain ⟨j, m, A, c, a, la, be, ac, hj, rfl, rfl, rfl, hacl, hB, hM, hO8, hb8, hG, hR⟩ := hrel
    have HAC := Lib.hid hacl
    have HRS := Lib.hid hR
    have hsz := hG.size
    clear hacl hR
    by_cases hlt : j < N
    · have HRd := Lib.hid (four_any g w.heap.size (.slice A2 n2 c2) (bitsOf bs) a wr hB)
      cases hq : parse4 ((bitsOf bs).drop a) with
      | none =>
        have HF := Lib.hid (finCR_none (bs := bs) (HRS.out.fail hlt hq))
        rw [hq] at HRd
        clear hq
        go_wp2_with fail
        refine HRd.out.mono ?_
        rintro e w4 ⟨p1, rfl⟩
        go_wp2_with fail
        go_ret2
        rw [HF.out]
        exact ⟨hG.thenR p1 hg, rfl⟩
      | some q =>
        obtain ⟨d, t2⟩ := q
        have HRS2 := Lib.hid (HRS.out.step hlt hq)
        rw [hq] at HRd
        clear hq
        have KB := Lib.hid hb8
        have KR := Lib.hid hB.box
        have KM := Lib.hid hM
        clear hB hM hb8
        go_wp2_with fail
        refine HRd.out.mono ?_
        rintro e w4 ⟨p1, vl, rfl, p2, a2, p3, p4⟩
        have hb4 := KB.out.keepRd p1 KR.out (by decide)
        have hM4 := KM.out.keepR p1 KR.out (by decide)
        have hG4 := hG.thenR p1 hg
        have hs4 := hG4.size
        rw [p4] at HRS2
        obtain ⟨Al, nl, cl, rfl, hnl⟩ := p2.slice
        obtain rfl : nl = 4 := hnl
        obtain ⟨gl, rfl⟩ := p2.some_ (by simp [l4])
        have l0 : w4.cell? ⟨gl, 0, none⟩ = some (.int .i64 d.1) := p2.cellAt (j := 0) (by simp [l4])
        have l1 : w4.cell? ⟨gl, 1, none⟩ = some (.int .i64 d.2.1) := p2.cellAt (j := 1) (by simp [l4])
        have l2 : w4.cell? ⟨gl, 2, none⟩ = some (.int .i64 d.2.2.1) := p2.cellAt (j := 2) (by simp [l4])
        have l3 : w4.cell? ⟨gl, 3, none⟩ = some (.int .i64 d.2.2.2) := p2.cellAt (j := 3) (by simp [l4])
        obtain ⟨f0, f1, f2, f3⟩ := hb4.four
        clear p4 HRd p1 KB KR KM hG l0 l1 l2 l3 f0 f1 f2 f3
        have hcl : ∀ w' : World, Grew w4 w' → w'.cell? ⟨gl, 0, none⟩ = some (.int .i64 d.1) ∧ w'.cell? ⟨gl, 1, none⟩ = some (.int .i64 d.2.1) ∧ w'.cell? ⟨gl, 2, none⟩ = some (.int .i64 d.2.2.1) ∧ w'.cell? ⟨gl, 3, none⟩ = some (.int .i64 d.2.2.2) := fun w' hk =>
          ⟨(p2.grew hk).cellAt (j := 0) (by simp [l4]), (p2.grew hk).cellAt (j := 1) (by simp [l4]), (p2.grew hk).cellAt (j := 2) (by simp [l4]), (p2.grew hk).cellAt (j := 3) (by simp [l4])⟩
        have HCL := Lib.hid hcl
        have hgl : gl < w4.heap.size := (p2.lt gl rfl).2
        have hgl2 : w3.heap.size ≠ gl := fun e => p2.ne_box rfl hb4 (by decide) e.symm
        obtain ⟨l0, l1, l2, l3⟩ := hcl w4 (Grew.refl w4)
        obtain ⟨f0, f1, f2, f3⟩ := hb4.four
        clear hcl
        go_wp2_with fail
        go_quiet (fail)
        have gq : Grew w4 (w4.drewN nq) := (Grew.refl w4).drewN nq
        have hb5 := hb4.grew gq
        clear l0 l1 l2 l3 f0 f1 f2 f3
        obtain ⟨l0, l1, l2, l3⟩ := HCL.out _ gq
        obtain ⟨f0, f1, f2, f3⟩ := hb5.four
        generalize w4.drewN nq = w5 at *
        go_wp2_with fail
        go_quiet (fail)
        have gq2 : Grew w4 (w5.drewN nq) := gq.trans ((Grew.refl w5).drewN nq)
        have hb6 := hb5.grew ((Grew.refl w5).drewN nq)
        clear l0 l1 l2 l3 f0 f1 f2 f3 hb5 gq
        obtain ⟨l0, l1, l2, l3⟩ := HCL.out _ gq2
        obtain ⟨f0, f1, f2, f3⟩ := hb6.four
        generalize w5.drewN nq = w6 at *
        have HWS := Lib.hid (wr_step be la d)
        have hb6' := Lib.hid hb6
        have r6 := p3.grew gq2
        have M6 := hM4.grew gq2
        have G6 := hG4.trans gq2
        have hgl6 : gl < w6.heap.size := Nat.lt_of_lt_of_le hgl gq2.size
        have R6 := Lib.hid r6
        have HM6 := Lib.hid M6
        have HG6 := Lib.hid G6
        have L2 := Lib.hid l2
        clear p2 p3 hM4 hb4 HCL gq2 r6 M6 G6 hb6 l0 l1 l3
        try simp only [IntWalk.i64_left]
        go_wp2_with (first | (refine st1c (.tmp 76) (.tmp 75) w3.heap.size 0 (by decide) (wrap64 (la.1 + wrap64 (wrap64 (la.1 - be.1) + d.1))) la 24 rfl rfl rfl rfl hb6'.out ?_; intro wA hA kA; rw [wr0 be la d] at hA; have f0A : wA.cell? ⟨w3.heap.size, 0, none⟩ = some (.int .i64 (nextC be la d).1) := hA.cell 0) | (refine st1c (.tmp 81) (.tmp 80) w3.heap.size 1 (by decide) (wrap64 ((nextC be la d).1 + wrap64 (wrap64 (la.2.1 - la.1) + d.2.1))) (setC la 0 (nextC be la d).1) 24 rfl rfl rfl rfl hA ?_; intro wB hB kB; rw [wr1 be la d] at hB))
        have l2B : wB.cell? ⟨gl, 2, none⟩ = some (.int .i64 d.2.2.1) := (World.cell?_of_block ((Keeps.trans kA kB).block gl hgl6 (fun e => hgl2 e.symm))).trans L2.out
        have f2B : wB.cell? ⟨w3.heap.size, 2, none⟩ = some (.int .i64 la.2.2.1) := hB.cell 2
        have KAB := Lib.hid (Keeps.trans kA kB)
        have hszB := (Keeps.trans kA kB).size
        have hBd := Lib.hid hB.drew
        clear l2 L2 f0 f1 f2 f3 f0A hA kA kB hB
        go_still_tail 7, (by kernel_rfl)
        change wpList _ _ _ _ _ wB.drew
        refine st1c (.tmp 88) (.tmp 87) w3.heap.size 2 (by decide) (IntKind.i64.wrap (la.2.2.1 + d.2.2.1)) _ 24 rfl rfl rfl rfl hBd.out ?_
        intro wC hC kC
        rw [IntWalk.i64_left, wr2 be la d] at hC
        have f2C : wC.cell? ⟨w3.heap.size, 2, none⟩ = some (.int .i64 (nextC be la d).2.2.1) := hC.cell 2
        have KC := Lib.hid kC
        have HCC := Lib.hid hC
        clear hC kC l2B f2B
        try simp only [IntWalk.i64_left]
        have hMB := HM6.out.keep KAB.out (fun i hi e => hO8 i hi e)
        have hMC := MineC.keep (w := wB.drew) hMB KC.out (fun i hi e => hO8 i hi e)
        have RB := R6.out.aside1 hb6'.out (by decide) (by decide) KAB.out
        have RC := RR.aside1 (w := wB.drew) (RB.drewN 1) hBd.out (by decide) (by decide) KC.out
        have GB : Grew w wB := Keeps.then_ HG6.out KAB.out fun i hi e => by omega
        have GC : Grew w wC := Keeps.then_ (Keeps.drew GB) KC.out fun i hi e => by omega
        have hnac : ac.length < 1099511627776 := by rw [HAC.out]; omega
        have HRC := Lib.hid RC
        have HMC := Lib.hid hMC
        have HGC := Lib.hid GC
        have hsC := GC.size
        clear hMB hMC RB RC GB GC R6 HM6 HG6 KAB KC hBd hb6'
        go_wp2_with (first | (refine st1c (.tmp 93) (.tmp 92) w3.heap.size 3 (by decide) (wrap64 ((nextC be la d).2.2.1 + wrap64 (wrap64 (la.2.2.2 - la.2.2.1) + d.2.2.2))) (setC (setC (setC la 0 (nextC be la d).1) 1 (nextC be la d).2.1) 2 (nextC be la d).2.2.1) 24 rfl rfl rfl rfl HCC.out ?_; intro wD hD kD; rw [wr3 be la d, set_all be la d] at hD; obtain ⟨d0, d1, d2, d3⟩ := hD.four; have hMD := HMC.out.keep kD (fun i hi e => hO8 i hi e); have hsD := Nat.le_trans hsC kD.size) | (at_builtin; refine app_oneC rfl (.tmp 94) (.tmp 96) rfl rfl (hMD.alloc _) wD.heap.size 1 (nextC be la d) 24 rfl (Nat.le_refl _) (Box.new wD 24 _) hnac (by simp; omega) ?_; intro r cap wE hME hkE hrE hbrE hlrE))
        have RD := HRC.out.aside1 HCC.out (by decide) (by decide) kD
        have RE := (RD.alloc _).asideC (hMD.alloc _) hkE
        have GD : Grew w wD := Keeps.then_ HGC.out kD fun i hi e => by omega
        have GE : Grew w wE := Grew.appC (GD.alloc _) (hMD.alloc _) hkE
        have hbE := (hD.alloc _).asideC hO8 hkE
        have hwD : w3.heap.size < wD.heap.size := hD.lt
        have hOE : Off (.slice (some ⟨r, 0, none⟩) (ac.length + 1) cap) w3.heap.size := fun q hq e => by
          have hrq : r = q := by simpa [Value.ownBlock] using hq
          rcases hrE with h1 | h1
          · exact hO8 _ h1.symm (hrq.trans e)
          · rw [World.size_alloc] at h1; omega
        go_roundw
        case rel => exact ⟨j + 1, _, _, _, a2, nextC be la d, la, ac ++ [nextC be la d], by omega, by go_num, rfl, by rw [HWS.out], by rw [List.length_append, HAC.out]; rfl, RE, hME, hOE, hbE, GE, HRS2.out⟩
        case measure => simp [intOf]; omega
    · obtain rfl : j = N := by omega
      have HDN := Lib.hid HRS.out.done
      have hjl : ac.length ≤ 4096 := by rw [HAC.out]; exact hN
      have HI := Lib.hid (rencode_any _ ac wr hM.rd (by omega))
      have hbl := encB_len ac
      clear hb8 hB
      by_cases hE : encE ac = 0
      · go_wp2_with fail
        refine HI.out.mono ?_
        rintro e w4 ⟨p1, ⟨-, vx, rfl, p2⟩ | ⟨p2, -⟩⟩
        rotate_left
        · exact absurd hE p2
        rw [← encB_ok hE] at p2
        have hG4 := hG.trans p1
        have HSm := Lib.hid (sameBytes_any vx v (encB ac) bs w4 p2.rd ((h.grew (Nat.le_refl _) hG4).more hG4.size) (by omega) (by omega))
        by_cases hsame : encB ac = bs
        · have HFC := Lib.hid (finCR_yes HDN.out ⟨hE, hsame⟩)
          have hds : decide (encB ac = bs) = true := by rw [decide_eq_true_eq]; exact hsame
          rw [hds] at HSm
          clear hsame hds hE
          go_wp2_with fail
          refine HSm.out.mono ?_
          rintro e w5 ⟨rfl, n5, rfl⟩
          go_wp2_with fail
          go_ret2
          rw [HFC.out]
          exact ⟨hG4.drewN _, _, rfl, (hM.grew p1).grew ((Grew.refl w4).drewN _)⟩
        · have HFC := Lib.hid (finCR_no HDN.out (fun e => hsame e.2))
          have hds : decide (encB ac = bs) = false := by rw [decide_eq_false_iff_not]; exact hsame
          rw [hds] at HSm
          clear hsame hds hE
          go_wp2_with fail
          refine HSm.out.mono ?_
          rintro e w5 ⟨rfl, n5, rfl⟩
          go_wp2_with fail
          go_ret2
          rw [HFC.out]
          exact ⟨hG4.drewN _, rfl⟩
      · have HFC := Lib.hid (finCR_no (bs := bs) HDN.out (fun e => hE e.1))
        have tE : (encE ac != 0) = true := by rw [bne_iff_ne]; exact hE
        go_wp2_with fail
        refine HI.out.mono ?_
        rintro e w4 ⟨p1, ⟨p2, -⟩ | ⟨-, rfl⟩⟩
        · exact absurd p2 hE
        clear hE
        go_wp2_with fail
        go_ret2
        rw [HFC.out]
        exact ⟨hG.trans p1, rfl⟩

theorem rdecode_any (v : Value) (bs : List Nat) (w : World) (h : Rd w w.heap.size v (bs.map vb)) (hb : Bytes bs) (hs : bs.length ≤ 100000) :
    Calls Tryd.prog 44 #[v] w (DecPost w (refDecode bs)) := by
  cases hp : parse (bitsOf bs) with
  | none =>
    have e : refDecode bs = none := by unfold refDecode; rw [hp]
    rw [e]
    exact rdec_short v bs w h hb hs hp
  | some p =>
    obtain ⟨n, t⟩ := p
    by_cases hn : n < 0 ∨ 4096 < n
    · have e : refDecode bs = none := by unfold refDecode; rw [hp]; simp only; rw [if_pos hn]
      rw [e]
      by_cases h0 : n < 0
      · exact rdec_neg v bs w h hb hs n t hp h0
      · exact rdec_big v bs w h hb hs n t hp (by omega)
    · obtain ⟨N, rfl⟩ : ∃ N : Nat, n = (N : Int) := ⟨n.toNat, by omega⟩
      have e : refDecode bs = finCR bs N t := by unfold refDecode; rw [hp]; simp only; rw [if_neg hn, Int.toNat_natCast]
      rw [e]
      exact rdec_loop v bs w h hb hs N t hp (by omega)
end Go.Proofs.YtjiiiimhegkklaaDoor
