/- A row of claims of the call's own: one number of one claim, read and written in place. Envelope.Claims: claims of runs of ticks, all valid. -/
import Derived.Test.YtgkmfblmkfclbaaGreatDoorBlockSoundP10
import Derived.Test.YtgkmfblmkfclbaaGreatDoorBlockSoundP18
import Derived.Test.YtgkmfblmkfclbaaGreatDoorBlockSoundP27
import Derived.Test.YtgkmfblmkfclbaaGreatDoorBlockSoundP12
import Derived.Deep.QuietTactic
namespace Go.Proofs.YtgkmfblmkfclbaaGreatDoor
open Go.RowKit Pl

theorem cells4_set (c : Clm) {k : Nat} (hk : k < 4) (n : Int) : (cells4 c).set k (.int .i64 n) = cells4 (setC c k n) := by
  have : k = 0 ∨ k = 1 ∨ k = 2 ∨ k = 3 := by omega
  rcases this with rfl | rfl | rfl | rfl <;> rfl
theorem flat_set {cs : List Clm} {j k : Nat} (hj : j < cs.length) (hk : k < 4) (n : Int) : (flat cs).set (j * 4 + k) (.int .i64 n) = flat (cs.set j (setC (cs.getD j zc) k n)) := by
  induction cs generalizing j with
  | nil => simp at hj
  | cons c cs ih =>
    unfold flat at *
    have hl : (cells4 c).length = 4 := rfl
    cases j with
    | zero =>
      rw [List.flatMap_cons, List.set_append_left _ _ (by omega)]
      simp [cells4_set c hk]
    | succ j =>
      rw [List.flatMap_cons, List.set_append_right _ _ (by omega), show (j + 1) * 4 + k - (cells4 c).length = j * 4 + k by omega, ih (by simpa using hj)]
      simp
section
variable {w w' : World} {base : Nat} {v : Value} {cs : List Clm}
theorem MineC.mk' {g cap : Nat} {cur : Array Value} (hg : base ≤ g) (hb : Box w g 82 cur) (h1 : cs.length ≤ cap) (h2 : cap ≤ maxLen) (h3 : cur.size = cap * 4) (h4 : cur.toList.take (cs.length * 4) = flat cs) :
    MineC w base (.slice (some ⟨g, 0, none⟩) cs.length cap) cs :=
  ⟨flat_length cs, .inr ⟨g, cap, cur, rfl, hg, hb, h1, h2, h3, h4⟩⟩
/- the four numbers of claim j -/
theorem MineC.at_ {g m cap j : Nat} (h : MineC w base (.slice (some ⟨g, 0, none⟩) m cap) cs) (hj : j < cs.length) :
    w.cell? ⟨g, j * 4, none⟩ = some (.int .i64 (cs.getD j zc).1) ∧ w.cell? ⟨g, j * 4 + 1, none⟩ = some (.int .i64 (cs.getD j zc).2.1) ∧ w.cell? ⟨g, j * 4 + 2, none⟩ = some (.int .i64 (cs.getD j zc).2.2.1) ∧ w.cell? ⟨g, j * 4 + 3, none⟩ = some (.int .i64 (cs.getD j zc).2.2.2) := by
  obtain ⟨b, o, e, _, hc⟩ := h.rd.at_ hj
  injection e with e
  injection e with e1 e2
  subst e1 e2
  have c0 := hc 0 _ rfl
  have c1 := hc 1 _ rfl
  have c2 := hc 2 _ rfl
  have c3 := hc 3 _ rfl
  simp only [Nat.zero_add, Nat.add_zero] at c0 c1 c2 c3
  exact ⟨c0, c1, c2, c3⟩
theorem MineC.free {g m cap : Nat} (h : MineC w base (.slice (some ⟨g, 0, none⟩) m cap) cs) (i : Nat) : w.frozen? ⟨g, i, none⟩ = false := by
  rcases h.form with ⟨e, _⟩ | ⟨g', cap', cur, e, _, hbox, _⟩
  · cases e
  · injection e with e
    injection e with e
    injection e with e
    subst e
    exact hbox.frozen i
theorem MineC.put {g m cap j k : Nat} (h : MineC w base (.slice (some ⟨g, 0, none⟩) m cap) cs) (hj : j < cs.length) (hk : k < 4) (n : Int) :
    MineC (w.setCell ⟨g, j * 4 + k, none⟩ (.int .i64 n)) base (.slice (some ⟨g, 0, none⟩) m cap) (cs.set j (setC (cs.getD j zc) k n)) := by
  rcases h.form with ⟨e, _⟩ | ⟨g', cap', cur, e, hb, hbox, h1, h2, h3, h4⟩
  · cases e
  · injection e with e e2 e3
    injection e with e
    injection e with e
    subst e e2 e3
    have hl : (cs.set j (setC (cs.getD j zc) k n)).length = cs.length := by simp
    rw [← hl]
    refine MineC.mk' (cur := cur.setIfInBounds (j * 4 + k) (.int .i64 n)) hb (hbox.set_ (j * 4 + k) _) (by omega) h2 (by simpa using h3) ?_
    rw [hl, Array.toList_setIfInBounds, List.take_set, h4, flat_set hj hk]
theorem MineC.put_keeps (g i : Nat) (u : Value) (w : World) : Keeps (fun b => b = g) w (w.setCell ⟨g, i, none⟩ u) := (Keeps.refl (fun b => b = g) w).setCell (p := ⟨g, i, none⟩) (.inl rfl) _
/- a row that is not empty lies somewhere -/
theorem MineC.some_ {A : Option Addr} {m cap : Nat} (h : MineC w base (.slice A m cap) cs) (h0 : 0 < cs.length) : ∃ g, A = some ⟨g, 0, none⟩ ∧ base ≤ g ∧ g < w.heap.size := by
  rcases h.form with ⟨e, hc⟩ | ⟨g', cap', cur, e, hb, hbox, h1, h2, h3, h4⟩
  · rw [hc] at h0; simp at h0
  · injection e with e
    exact ⟨g', e, hb, hbox.lt⟩
theorem MineC.len {A : Option Addr} {m cap : Nat} (h : MineC w base (.slice A m cap) cs) : m = cs.length := by
  obtain ⟨A', n, c, e, hn, _⟩ := h.slice
  injection e with e e2
  omega
end
theorem nil_or_last (rs : List Clm) : rs = [] ∨ ∃ ys y, rs = ys ++ [y] := by
  rcases List.eq_nil_or_concat rs with h | ⟨ys, y, h⟩
  · exact .inl h
  · exact .inr ⟨ys, y, by rw [h, List.concat_eq_append]⟩
theorem set_last (ys : List Clm) (c d : Clm) : (ys ++ [c]).set ys.length d = ys ++ [d] := by simp
theorem getD_last (ys : List Clm) (c : Clm) : (ys ++ [c]).getD ys.length zc = c := by simp
end Go.Proofs.YtgkmfblmkfclbaaGreatDoor
namespace Go.Proofs.YtgkmfblmkfclbaaGreatDoor
open Go.RowKit Pl

def RunsPost (x : Fin 10 → Int) (n : Nat) (w : World) (e : Ending) (w' : World) : Prop :=
  ∃ v rs, e = .returned v ∧ MineC w' w.heap.size v rs ∧ RunsI x n rs ∧ Grew w w'
set_option maxHeartbeats 6400000 in
set_option maxRecDepth 100000 in
theorem eclaims_any (x : Fin 10 → Int) (hx : GoodD x) (l h : List Int) (A B : Option Addr) (n c d : Nat) (w : World) (hl : Rd w w.heap.size (.slice A n c) (l.map vi)) (hh : Rd w w.heap.size (.slice B n d) (h.map vi)) (hn : n = spanD x)
    (hb : ∀ j, j < n → x 3 ≤ l.getD j 0 ∧ l.getD j 0 ≤ h.getD j 0 ∧ h.getD j 0 ≤ x 4) :
    Calls Tryz.prog 75 #[venv (x 7) (.slice A n c) (.slice B n d)] w (RunsPost x n w) := by
  have hnl : n = l.length := by obtain ⟨_, _, _, e, h, _⟩ := hl.form; injection e with _ e; subst e; simpa using h
  have hnh : n = h.length := by obtain ⟨_, _, _, e, h, _⟩ := hh.form; injection e with _ e; subst e; simpa using h
  have hs := (spanD_le hx).2
  have f1 := hx.first
  have f2 : x 7 ≤ 1048576 := by have := hx.last; have := hx.last2; omega
  have hn' : n ≤ 4096 := by omega
  have HX := Lib.hid hx
  have HN := Lib.hid hn
  have HNL := Lib.hid hnl
  have HNH := Lib.hid hnh
  have HL := Lib.hid hl
  have HH := Lib.hid hh
  have HBd := Lib.hid hb
  have HLn := Lib.hid (fun w' => elen_any (x 7) A B n c d w' (by omega))
  have hbx := Box.new w 32 (cells3 (x 7) (.slice A n c) (.slice B n d)).toArray
  have hG := (Grew.refl w).alloc (.cells (cells3 (x 7) (.slice A n c) (.slice B n d)).toArray 32)
  clear hl hh hnl hnh hb hn hx hs
  unfold venv at HLn ⊢
  go_enter Tryz.func75, Tryz.ntmps75
  go_upto_region 1 with fail
  generalize w.alloc (.cells (cells3 (x 7) (.slice A n c) (.slice B n d)).toArray 32) = w1 at *
  go_wp2_with (refine ldN 32 Tryz.underlying32 rfl (.tmp 1) w.heap.size (cells3 (x 7) (.slice A n c) (.slice B n d)) 32 (by kernel_rfl) rfl rfl rfl hbx ?_)
  refine (HLn.out w1).mono ?_
  rintro e w2 ⟨rfl, k2⟩
  have HB := Lib.hid (hbx.grew k2)
  have HG := Lib.hid (hG.trans k2)
  clear hbx hG k2 HLn
  go_wp2_with fail
  go_loopw [3, 10] (fun o i wr => ∃ (j m : Nat) (C : Option Addr) (q : Nat) (rs : List Clm), j ≤ n ∧ i = .int .i64 j ∧ o = .slice C m q ∧ m = rs.length ∧ m ≤ 4096 ∧ RunsI x j rs ∧ MineC wr w.heap.size (.slice C m q) rs ∧ Box wr w.heap.size 32 (cells3 (x 7) (.slice A n c) (.slice B n d)).toArray ∧ Grew w wr) (fun _ i _ => n - (intOf i).toNat)
  case atStart => exact ⟨0, 0, none, 0, [], by omega, rfl, rfl, rfl, by omega, RunsI.nil x, MineC.nil _ _, HB.out, HG.out⟩
  case round =>
    clear HB HG
    obtain ⟨j, m, C, q, rs, hj, rfl, rfl, hm, hm5, hR, hM, hB, hG⟩ := hrel
    by_cases hlt : j < n
    · obtain ⟨a1, rfl, _, e1⟩ := (HL.out.grew (Nat.le_refl _) hG).int_at (j := j) (by rw [← HNL.out]; exact hlt)
      obtain ⟨a2, rfl, _, e2⟩ := (HH.out.grew (Nat.le_refl _) hG).int_at (j := j) (by rw [← HNH.out]; exact hlt)
      obtain ⟨p1, p2, p3⟩ := HBd.out j hlt
      have hjs : j < spanD x := by rw [← HN.out]; exact hlt
      generalize l.getD j 0 = lo at *
      generalize h.getD j 0 = hi at *
      have c1 : wr.cell? ⟨w.heap.size, 1, none⟩ = some (.slice (some a1) n c) := hB.cell 1
      have c2 : wr.cell? ⟨w.heap.size, 2, none⟩ = some (.slice (some a2) n d) := hB.cell 2
      have HM := Lib.hid hm
      have HR := Lib.hid hR
      have HMM := Lib.hid hM
      have HBB := Lib.hid hB
      have HGG := Lib.hid hG
      clear hm hR hM hB hG
      go_wp2_with fail
      go_quiet (fail)
      have hz : Grew wr (wr.drewN nq) := Keeps.drewN (Grew.refl wr) nq
      have hB5 := HBB.out.grew hz
      have hM5 := HMM.out.grew hz
      have hG5 := HGG.out.trans hz
      generalize wr.drewN nq = w5 at *
      clear c1 c2 e1 e2 hz HMM HBB HGG
      have c0 : w5.cell? ⟨w.heap.size, 0, none⟩ = some (.int .i64 (x 7)) := hB5.cell 0
      have HNw := Lib.hid (HR.out.new HX.out hjs p1 p2 p3)
      have hn5 : rs.length < 1099511627776 := by rw [← HM.out]; omega
      have HB5 := Lib.hid hB5
      have HG5 := Lib.hid hG5
      clear hB5 hG5
      rcases nil_or_last rs with rfl | ⟨ys, y, rfl⟩
      · obtain rfl : m = 0 := by simpa using HM.out
        go_wp2_with (at_builtin; refine app_oneC rfl (.tmp 56) (.tmp 68) rfl rfl (hM5.alloc _) w5.heap.size 1 ((x 7 + (j : Int), x 7 + (j : Int), lo, hi) : Clm) 82 rfl (Nat.le_refl _) (Box.new w5 82 _) hn5 (by have := HG5.out.size; simp; omega) ?_; intro r6 cap6 w6 hM6 hk6 hr6 hbr6 hlr6; have HB6 := Lib.hid ((HB5.out.alloc (.cells (cells4 (x 7 + (j : Int), x 7 + (j : Int), lo, hi)).toArray 82)).keep hk6 (fun e => (hM5.alloc _).ne_box e (HB5.out.alloc (.cells (cells4 (x 7 + (j : Int), x 7 + (j : Int), lo, hi)).toArray 82)) (by decide) rfl)); have HG6 := Lib.hid (Grew.appC (HG5.out.alloc _) (hM5.alloc _) hk6); have HM6 := Lib.hid hM6; clear hM6 hk6 hr6 hbr6 hlr6)
        go_roundw
        case rel => exact ⟨j + 1, 1, _, cap6, _, by omega, by go_num, rfl, rfl, by omega, HNw.out, HM6.out, HB6.out, HG6.out⟩
        case measure => simp [intOf]; omega
      · obtain ⟨p, hp⟩ : ∃ p, p = ys.length := ⟨_, rfl⟩
        obtain rfl : m = p + 1 := by have := HM.out; simp at this; omega
        obtain ⟨g, rfl, hgb, hgl⟩ := hM5.some_ (by simp)
        have HP := Lib.hid hp
        obtain ⟨y0, y1, y2, y3⟩ := hM5.at_ (j := p) (by simp; omega)
        rw [hp, getD_last, ← hp] at y0 y1 y2 y3
        have yf := hM5.free (p * 4 + 1)
        have hput := hM5.put (j := p) (k := 1) (by simp; omega) (by omega) (y.2.1 + 1)
        rw [hp, getD_last, set_last, ← hp] at hput
        have HR1 := Lib.hid (HR.out.more HX.out hjs)
        have HPut := Lib.hid (show MineC (w5.setCell ⟨g, p * 4 + 1, none⟩ (.int .i64 (y.2.1 + 1))) w.heap.size (.slice (some ⟨g, 0, none⟩) (p + 1) q) (ys ++ [(y.1, y.2.1 + 1, y.2.2)]) from hput)
        have hne : g ≠ w.heap.size := hM5.ne_box rfl HB5.out (by decide)
        have HBn := Lib.hid (HB5.out.far (p := ⟨g, p * 4 + 1, none⟩) (Ne.symm hne) (.int .i64 (y.2.1 + 1)))
        have HGn := Lib.hid (show Grew w (w5.setCell ⟨g, p * 4 + 1, none⟩ (.int .i64 (y.2.1 + 1))) from Keeps.then_ HG5.out (MineC.put_keeps g _ _ w5) (fun i hi e => by omega))
        have hy1 : y.2.1 < 1048577 := by
          have := (HR.out.2 y (by simp)).1.last
          have := HX.out.last2
          omega
        have hy0 : 0 ≤ y.2.1 := by
          have := (HR.out.2 y (by simp)).1.first
          have := (HR.out.2 y (by simp)).1.upto
          omega
        have HM5 := Lib.hid hM5
        clear hp hput hM5
        by_cases hlo : y.2.2.1 = lo
        · have t1 : (y.2.2.1 == lo) = true := by simpa using hlo
          by_cases hhi : y.2.2.2 = hi
          · have t2 : (y.2.2.2 == hi) = true := by simpa using hhi
            clear hlo hhi HM5 HB5 HG5 HNw hn5
            go_wp2_with fail
            go_roundw
            case rel => exact ⟨j + 1, p + 1, _, q, _, by omega, by go_num, rfl, by have := HP.out; simp; omega, by omega, HR1.out, HPut.out, HBn.out, HGn.out⟩
            case measure => simp [intOf]; omega
          · have t2 : (y.2.2.2 == hi) = false := by simpa using hhi
            clear hlo hhi HPut HBn HGn HR1
            go_wp2_with (at_builtin; refine app_oneC rfl (.tmp 56) (.tmp 68) rfl rfl (HM5.out.alloc _) w5.heap.size 1 ((x 7 + (j : Int), x 7 + (j : Int), lo, hi) : Clm) 82 rfl (Nat.le_refl _) (Box.new w5 82 _) hn5 (by have := HG5.out.size; simp; omega) ?_; intro r6 cap6 w6 hM6 hk6 hr6 hbr6 hlr6; have HB6 := Lib.hid ((HB5.out.alloc (.cells (cells4 (x 7 + (j : Int), x 7 + (j : Int), lo, hi)).toArray 82)).keep hk6 (fun e => (HM5.out.alloc _).ne_box e (HB5.out.alloc (.cells (cells4 (x 7 + (j : Int), x 7 + (j : Int), lo, hi)).toArray 82)) (by decide) rfl)); have HG6 := Lib.hid (Grew.appC (HG5.out.alloc _) (HM5.out.alloc _) hk6); rw [← HM.out] at hM6 ⊢; have HM6 := Lib.hid hM6; clear hM6 hk6 hr6 hbr6 hlr6)
            go_roundw
            case rel => exact ⟨j + 1, p + 2, _, cap6, _, by omega, by go_num, rfl, by have := HP.out; simp; omega, by have h := HNw.out.1; rw [List.length_append, ← HM.out] at h; simp at h; omega, HNw.out, HM6.out, HB6.out, HG6.out⟩
            case measure => simp [intOf]; omega
        · have t1 : (y.2.2.1 == lo) = false := by simpa using hlo
          clear hlo HPut HBn HGn HR1
          go_wp2_with (at_builtin; refine app_oneC rfl (.tmp 56) (.tmp 68) rfl rfl (HM5.out.alloc _) w5.heap.size 1 ((x 7 + (j : Int), x 7 + (j : Int), lo, hi) : Clm) 82 rfl (Nat.le_refl _) (Box.new w5 82 _) hn5 (by have := HG5.out.size; simp; omega) ?_; intro r6 cap6 w6 hM6 hk6 hr6 hbr6 hlr6; have HB6 := Lib.hid ((HB5.out.alloc (.cells (cells4 (x 7 + (j : Int), x 7 + (j : Int), lo, hi)).toArray 82)).keep hk6 (fun e => (HM5.out.alloc _).ne_box e (HB5.out.alloc (.cells (cells4 (x 7 + (j : Int), x 7 + (j : Int), lo, hi)).toArray 82)) (by decide) rfl)); have HG6 := Lib.hid (Grew.appC (HG5.out.alloc _) (HM5.out.alloc _) hk6); rw [← HM.out] at hM6 ⊢; have HM6 := Lib.hid hM6; clear hM6 hk6 hr6 hbr6 hlr6)
          go_roundw
          case rel => exact ⟨j + 1, p + 2, _, cap6, _, by omega, by go_num, rfl, by have := HP.out; simp; omega, by have h := HNw.out.1; rw [List.length_append, ← HM.out] at h; simp at h; omega, HNw.out, HM6.out, HB6.out, HG6.out⟩
          case measure => simp [intOf]; omega
    · go_wp2_with fail
      go_ret
      obtain rfl : j = n := by omega
      exact ⟨_, rs, rfl, hM, hR, hG⟩
end Go.Proofs.YtgkmfblmkfclbaaGreatDoor
