/- envelope.alike, crossed, Within. Envelopes in plain words: claims taken in one by one, two passes; the order of the claims does not count. -/
import Derived.Test.YtgkmfblmkfclbaaGreatDoorBlockSoundP22
import Derived.Test.YtgkmfblmkfclbaaGreatDoorBlockSoundP06
import Derived.Deep.DeepCutAuto
import Derived.Deep.QuietTactic
import Derived.Test.YtgkmfblmkfclbaaGreatDoorBlockSoundP09
namespace Go.Proofs.YtgkmfblmkfclbaaGreatDoor
open Go.RowKit Pl

/- an envelope xs a value -/
def cells3 (f : Int) (l h : Value) : List Value := [.int .i64 f, l, h]
def venv (f : Int) (l h : Value) : Value := .agg (cells3 f l h).toArray
/- two envelopes in boxes -/
theorem two3 (w : World) (f : Int) (l h : Value) (f' : Int) (l' h' : Value) : ∀ w', Grew ((w.alloc (.cells (cells3 f l h).toArray 32)).alloc (.cells (cells3 f' l' h').toArray 32)) w' →
    Box w' w.heap.size 32 (cells3 f l h).toArray ∧ Box w' (w.heap.size + 1) 32 (cells3 f' l' h').toArray := fun w' g => by
  have h1 := ((Box.new w 32 (cells3 f l h).toArray).alloc (.cells (cells3 f' l' h').toArray 32)).grew g
  have h2 := (Box.new (w.alloc (.cells (cells3 f l h).toArray 32)) 32 (cells3 f' l' h').toArray).grew g
  rw [World.size_alloc] at h2
  exact ⟨h1, h2⟩
set_option maxHeartbeats 1600000 in
theorem alike_any (f : Int) (A B C D : Option Addr) (n c d p q : Nat) (w : World) (_ : n ≤ 1000000) :
    Calls Tryz.prog 44 #[venv f (.slice A n c) (.slice B n d), venv f (.slice C n p) (.slice D n q)] w fun e w' => e = .returned (.bool true) ∧ Grew w w' := by
  have HB := Lib.hid (two3 w f (.slice A n c) (.slice B n d) f (.slice C n p) (.slice D n q))
  have HG := Lib.hid (((Grew.refl w).alloc (.cells (cells3 f (.slice A n c) (.slice B n d)).toArray 32)).alloc (.cells (cells3 f (.slice C n p) (.slice D n q)).toArray 32))
  have tf : (f == f) = true := by simp
  have tn : ((n : Int) == (n : Int)) = true := by simp
  unfold venv
  go_enter Tryz.func44, Tryz.ntmps44
  go_upto_region 1 with fail
  generalize (w.alloc (.cells (cells3 f (.slice A n c) (.slice B n d)).toArray 32)).alloc (.cells (cells3 f (.slice C n p) (.slice D n q)).toArray 32) = w1 at *
  obtain ⟨b1, b2⟩ := HB.out w1 (Grew.refl w1)
  have c0 : w1.cell? ⟨w.heap.size, 0, none⟩ = some (.int .i64 f) := b1.cell 0
  have c1 : w1.cell? ⟨w.heap.size, 1, none⟩ = some (.slice A n c) := b1.cell 1
  have c2 : w1.cell? ⟨w.heap.size, 2, none⟩ = some (.slice B n d) := b1.cell 2
  have d0 : w1.cell? ⟨w.heap.size + 1, 0, none⟩ = some (.int .i64 f) := b2.cell 0
  have d1 : w1.cell? ⟨w.heap.size + 1, 1, none⟩ = some (.slice C n p) := b2.cell 1
  have d2 : w1.cell? ⟨w.heap.size + 1, 2, none⟩ = some (.slice D n q) := b2.cell 2
  clear b1 b2 HB
  go_wp2_with fail
  go_ret
  exact ⟨rfl, HG.out⟩

/- a lower bound above an upper bound -/
def crossB : List Int → List Int → Bool
  | a :: xs, b :: ys => decide (b < a) || crossB xs ys
  | _, _ => false
theorem crossB_yes : ∀ {lo hi : List Int} {j : Nat}, j < lo.length → j < hi.length → hi.getD j 0 < lo.getD j 0 → crossB lo hi = true
  | a :: xs, b :: ys, 0, _, _, h => by
    have : decide (b < a) = true := by simpa using h
    simp [crossB, this]
  | a :: xs, b :: ys, j + 1, h1, h2, h => by
    have := crossB_yes (lo := xs) (hi := ys) (j := j) (by simpa using h1) (by simpa using h2) (by simpa using h)
    simp [crossB, this]
theorem crossB_no : ∀ {lo hi : List Int}, (∀ j, j < lo.length → j < hi.length → ¬ hi.getD j 0 < lo.getD j 0) → crossB lo hi = false
  | [], _, _ => by simp [crossB]
  | _ :: _, [], _ => by simp [crossB]
  | a :: xs, b :: ys, h => by
    have h0 := h 0 (by simp) (by simp)
    have h1 : decide (b < a) = false := by simpa using h0
    have := crossB_no (lo := xs) (hi := ys) (fun j h1 h2 => by have := h (j + 1) (by simpa using h1) (by simpa using h2); simpa using this)
    simp [crossB, h1, this]
set_option maxHeartbeats 1600000 in
theorem crossed_any (f f' : Int) (l h : List Int) (A : Option Addr) (c : Nat) (v u : Value) (B : Option Addr) (d : Nat) (n : Nat) (w : World) (_ : v.oneCell' = true) (_ : u.oneCell' = true) (hl : Rd w w.heap.size (.slice A n c) (l.map vi)) (hh : Rd w w.heap.size (.slice B n d) (h.map vi)) (hn : n ≤ 1000000) :
    Calls Tryz.prog 23 #[venv f (.slice A n c) v, venv f' u (.slice B n d)] w fun e w' => e = .returned (.bool (crossB l h)) ∧ Grew w w' := by
  have HB := Lib.hid (two3 w f (.slice A n c) v f' u (.slice B n d))
  have hG := (((Grew.refl w).alloc (.cells (cells3 f (.slice A n c) v).toArray 32)).alloc (.cells (cells3 f' u (.slice B n d)).toArray 32))
  have hnl : n = l.length := by obtain ⟨_, _, _, e, h, _⟩ := hl.form; injection e with _ e; subst e; simpa using h
  have hnh : n = h.length := by obtain ⟨_, _, _, e, h, _⟩ := hh.form; injection e with _ e; subst e; simpa using h
  have HL := Lib.hid hl
  have HH := Lib.hid hh
  have HNL := Lib.hid hnl
  have HNH := Lib.hid hnh
  clear hl hh hnl hnh
  unfold venv
  go_enter Tryz.func23, Tryz.ntmps23
  go_upto_region 1 with fail
  generalize (w.alloc (.cells (cells3 f (.slice A n c) v).toArray 32)).alloc (.cells (cells3 f' u (.slice B n d)).toArray 32) = w1 at *
  obtain ⟨b1, b2⟩ := HB.out w1 (Grew.refl w1)
  have c1 : w1.cell? ⟨w.heap.size, 1, none⟩ = some (.slice A n c) := b1.cell 1
  have d2 : w1.cell? ⟨w.heap.size + 1, 2, none⟩ = some (.slice B n d) := b2.cell 2
  have HG := Lib.hid hG
  clear b1 b2 HB hG
  go_wp2_with fail
  go_loopw [10] (fun i wr => ∃ (j : Nat), j ≤ n ∧ i = .int .i64 (j : Nat) ∧ (∀ k, k < j → ¬ h.getD k 0 < l.getD k 0) ∧ wr = w1) (fun i _ => n - (intOf i).toNat)
  case atStart => exact ⟨0, by omega, rfl, fun k hk => by omega, rfl⟩
  case round =>
    obtain ⟨j, hj, rfl, hall, rfl⟩ := hrel
    have HA := Lib.hid hall
    clear hall
    by_cases hlt : j < n
    · obtain ⟨a1, rfl, _, e1⟩ := (HL.out.grew (Nat.le_refl _) HG.out).int_at (j := j) (by rw [← HNL.out]; exact hlt)
      obtain ⟨a2, rfl, _, e2⟩ := (HH.out.grew (Nat.le_refl _) HG.out).int_at (j := j) (by rw [← HNH.out]; exact hlt)
      by_cases hx : h.getD j 0 < l.getD j 0
      · have HC := Lib.hid (crossB_yes (lo := l) (hi := h) (j := j) (by rw [← HNL.out]; exact hlt) (by rw [← HNH.out]; exact hlt) hx)
        generalize h.getD j 0 = y at *
        generalize l.getD j 0 = x at *
        have tx : decide (y < x) = true := by simpa using hx
        clear hx
        go_wp2_with fail
        go_ret
        exact ⟨by rw [HC.out]; rfl, HG.out⟩
      · have HS := Lib.hid (show ∀ k, k < j + 1 → ¬ h.getD k 0 < l.getD k 0 from fun k hk => by
          rcases Nat.lt_or_ge k j with h1 | h1
          · exact HA.out k h1
          · obtain rfl : k = j := by omega
            exact hx)
        generalize h.getD j 0 = y at *
        generalize l.getD j 0 = x at *
        have tx : decide (y < x) = false := by simpa using hx
        clear hx
        go_wp2_with fail
        go_roundw
        case rel => exact ⟨j + 1, by omega, by go_num, HS.out, trivial⟩
        case measure => simp [intOf]; omega
    · have HC := Lib.hid (crossB_no (lo := l) (hi := h) (fun k h1 _ => HA.out k (by rw [← HNL.out] at h1; omega)))
      go_wp2_with fail
      go_ret
      exact ⟨by rw [HC.out]; rfl, HG.out⟩
set_option maxHeartbeats 3200000 in
theorem within_any (f : Int) (l h l' h' : List Int) (A B C D : Option Addr) (c d p q n : Nat) (w : World) (hl : Rd w w.heap.size (.slice A n c) (l.map vi)) (hh : Rd w w.heap.size (.slice B n d) (h.map vi)) (hl' : Rd w w.heap.size (.slice C n p) (l'.map vi)) (hh' : Rd w w.heap.size (.slice D n q) (h'.map vi)) (hn : n ≤ 1000000)
    (hle : ∀ j, j < n → l'.getD j 0 ≤ l.getD j 0 ∧ h.getD j 0 ≤ h'.getD j 0) :
    Calls Tryz.prog 14 #[venv f (.slice A n c) (.slice B n d), venv f (.slice C n p) (.slice D n q)] w fun e w' => e = .returned (.bool true) ∧ Grew w w' := by
  have HB := Lib.hid (two3 w f (.slice A n c) (.slice B n d) f (.slice C n p) (.slice D n q))
  have hG := (((Grew.refl w).alloc (.cells (cells3 f (.slice A n c) (.slice B n d)).toArray 32)).alloc (.cells (cells3 f (.slice C n p) (.slice D n q)).toArray 32))
  have len : ∀ (E : Option Addr) (k : Nat) (x : List Int), Rd w w.heap.size (.slice E n k) (x.map vi) → n = x.length := fun E k x r => by obtain ⟨_, _, _, e, h, _⟩ := r.form; injection e with _ e; subst e; simpa using h
  have H1 := Lib.hid hl
  have H2 := Lib.hid hh
  have H3 := Lib.hid hl'
  have H4 := Lib.hid hh'
  have N1 := Lib.hid (len _ _ _ hl)
  have N2 := Lib.hid (len _ _ _ hh)
  have N3 := Lib.hid (len _ _ _ hl')
  have N4 := Lib.hid (len _ _ _ hh')
  have HLe := Lib.hid hle
  have HAl := Lib.hid (fun w' => alike_any f A B C D n c d p q w' hn)
  clear hl hh hl' hh' len hle
  unfold venv at HAl ⊢
  go_enter Tryz.func14, Tryz.ntmps14
  go_upto_region 1 with fail
  generalize (w.alloc (.cells (cells3 f (.slice A n c) (.slice B n d)).toArray 32)).alloc (.cells (cells3 f (.slice C n p) (.slice D n q)).toArray 32) = w1 at *
  obtain ⟨b1, b2⟩ := HB.out w1 (Grew.refl w1)
  have HG := Lib.hid hG
  clear hG
  go_wp2_with (first | (refine ldN 32 Tryz.underlying32 rfl (.tmp 2) w.heap.size (cells3 f (.slice A n c) (.slice B n d)) 32 (by kernel_rfl) rfl rfl rfl b1 ?_) | (refine ldN 32 Tryz.underlying32 rfl (.tmp 3) (w.heap.size + 1) (cells3 f (.slice C n p) (.slice D n q)) 32 (by kernel_rfl) rfl rfl rfl b2 ?_))
  refine (HAl.out w1).mono ?_
  rintro e w2 ⟨rfl, k2⟩
  have c1 : ∀ m, (w2.drewN m).cell? ⟨w.heap.size, 1, none⟩ = some (.slice A n c) := fun m => (b1.grew k2).cell 1
  have c2 : ∀ m, (w2.drewN m).cell? ⟨w.heap.size, 2, none⟩ = some (.slice B n d) := fun m => (b1.grew k2).cell 2
  have d1 : ∀ m, (w2.drewN m).cell? ⟨w.heap.size + 1, 1, none⟩ = some (.slice C n p) := fun m => (b2.grew k2).cell 1
  have d2 : ∀ m, (w2.drewN m).cell? ⟨w.heap.size + 1, 2, none⟩ = some (.slice D n q) := fun m => (b2.grew k2).cell 2
  have c1' := c1 0
  have c2' := c2 0
  have d1' := d1 0
  have d2' := d2 0
  rw [show w2.drewN 0 = w2 from rfl] at c1' c2' d1' d2'
  have HG2 := Lib.hid (HG.out.trans k2)
  clear b1 b2 HB HAl HG k2 c1 c2 d1 d2
  go_wp2_with fail
  go_loopw [13] (fun i wr => ∃ (j m : Nat), j ≤ n ∧ i = .int .i64 (j : Nat) ∧ wr = w2.drewN m) (fun i _ => n - (intOf i).toNat)
  case atStart => exact ⟨0, 0, by omega, rfl, rfl⟩
  case round =>
    obtain ⟨j, m, hj, rfl, rfl⟩ := hrel
    by_cases hlt : j < n
    · obtain ⟨a1, rfl, _, e1⟩ := (H1.out.grew (Nat.le_refl _) HG2.out).int_at (j := j) (by rw [← N1.out]; exact hlt)
      obtain ⟨a2, rfl, _, e2⟩ := (H2.out.grew (Nat.le_refl _) HG2.out).int_at (j := j) (by rw [← N2.out]; exact hlt)
      obtain ⟨a3, rfl, _, e3⟩ := (H3.out.grew (Nat.le_refl _) HG2.out).int_at (j := j) (by rw [← N3.out]; exact hlt)
      obtain ⟨a4, rfl, _, e4⟩ := (H4.out.grew (Nat.le_refl _) HG2.out).int_at (j := j) (by rw [← N4.out]; exact hlt)
      obtain ⟨q1, q2⟩ := HLe.out j hlt
      generalize l.getD j 0 = x1 at *
      generalize h.getD j 0 = x2 at *
      generalize l'.getD j 0 = x3 at *
      generalize h'.getD j 0 = x4 at *
      have t1 : decide (x1 < x3) = false := by simpa using q1
      have t2 : decide (x4 < x2) = false := by simpa using q2
      clear q1 q2
      go_wp2_with fail
      go_quiet (fail)
      go_wp2_with fail
      go_roundw
      case rel => exact ⟨j + 1, _, by omega, by go_num, rfl⟩
      case measure => simp [intOf]; omega
    · go_wp2_with fail
      go_ret
      exact ⟨rfl, Keeps.drewN HG2.out _⟩
end Go.Proofs.YtgkmfblmkfclbaaGreatDoor
namespace Go.Proofs.YtgkmfblmkfclbaaGreatDoor
open Go.RowKit Pl

abbrev EnvL := List Int × List Int
/- one tick of a claim -/
def stepC (c : Clm) (e : EnvL) (j : Nat) : EnvL := (e.1.set j (max (e.1.getD j 0) c.2.2.1), e.2.set j (min (e.2.getD j 0) c.2.2.2))
/- the ticks of a claim from the first to the last, counted from f on -/
def ticks (f : Int) (c : Clm) : List Nat := List.range' (c.1 - f).toNat (c.2.1 - c.1 + 1).toNat
def applyC (f : Int) (e : EnvL) (c : Clm) : EnvL := (ticks f c).foldl (stepC c) e
def takeIn (f : Int) (cs : List Clm) (e : EnvL) : EnvL := cs.foldl (applyC f) e
/- the change from tick to tick -/
def stepF (dn up : Int) (e : EnvL) (j : Nat) : EnvL := (e.1.set j (max (e.1.getD j 0) (wrap64 (e.1.getD (j - 1) 0 + dn))), e.2.set j (min (e.2.getD j 0) (wrap64 (e.2.getD (j - 1) 0 + up))))
def stepB (dn up : Int) (e : EnvL) (j : Nat) : EnvL := (e.1.set j (max (e.1.getD j 0) (wrap64 (e.1.getD (j + 1) 0 - up))), e.2.set j (min (e.2.getD j 0) (wrap64 (e.2.getD (j + 1) 0 - dn))))
def passF (dn up : Int) (n : Nat) (e : EnvL) : EnvL := (List.range' 1 (n - 1)).foldl (stepF dn up) e
def passB (dn up : Int) (n : Nat) (e : EnvL) : EnvL := (List.range (n - 1)).reverse.foldl (stepB dn up) e

theorem stepC_len (c : Clm) (e : EnvL) (j : Nat) : (stepC c e j).1.length = e.1.length ∧ (stepC c e j).2.length = e.2.length := by simp [stepC]
theorem foldC_len (c : Clm) (ts : List Nat) : ∀ e : EnvL, (ts.foldl (stepC c) e).1.length = e.1.length ∧ (ts.foldl (stepC c) e).2.length = e.2.length := by
  induction ts with
  | nil => exact fun e => ⟨rfl, rfl⟩
  | cons t ts ih => exact fun e => ⟨(ih _).1.trans (stepC_len c e t).1, (ih _).2.trans (stepC_len c e t).2⟩
theorem foldC_at (c : Clm) (ts : List Nat) (hd : ts.Nodup) : ∀ (e : EnvL) (j : Nat), (j < e.1.length → (ts.foldl (stepC c) e).1.getD j 0 = if j ∈ ts then max (e.1.getD j 0) c.2.2.1 else e.1.getD j 0) ∧ (j < e.2.length → (ts.foldl (stepC c) e).2.getD j 0 = if j ∈ ts then min (e.2.getD j 0) c.2.2.2 else e.2.getD j 0) := by
  induction ts with
  | nil => exact fun e j => ⟨fun _ => by simp, fun _ => by simp⟩
  | cons t ts ih =>
    intro e j
    obtain ⟨hn, hd'⟩ := List.nodup_cons.1 hd
    obtain ⟨i1, i2⟩ := ih hd' (stepC c e t) j
    rw [List.foldl_cons]
    refine ⟨fun h => ?_, fun h => ?_⟩
    · rw [i1 (by rw [(stepC_len c e t).1]; exact h)]
      by_cases hj : j = t
      · subst hj
        rw [if_neg hn, if_pos (by simp)]
        simp [stepC, List.getD_eq_getElem?_getD, List.getElem?_set_self h]
      · have e1 : (stepC c e t).1.getD j 0 = e.1.getD j 0 := by simp [stepC, List.getD_eq_getElem?_getD, List.getElem?_set_ne (Ne.symm hj)]
        rw [e1]
        by_cases hm : j ∈ ts
        · rw [if_pos hm, if_pos (by simp [hm])]
        · rw [if_neg hm, if_neg (by simp [hm, hj])]
    · rw [i2 (by rw [(stepC_len c e t).2]; exact h)]
      by_cases hj : j = t
      · subst hj
        rw [if_neg hn, if_pos (by simp)]
        simp [stepC, List.getD_eq_getElem?_getD, List.getElem?_set_self h]
      · have e1 : (stepC c e t).2.getD j 0 = e.2.getD j 0 := by simp [stepC, List.getD_eq_getElem?_getD, List.getElem?_set_ne (Ne.symm hj)]
        rw [e1]
        by_cases hm : j ∈ ts
        · rw [if_pos hm, if_pos (by simp [hm])]
        · rw [if_neg hm, if_neg (by simp [hm, hj])]
theorem ticks_nodup (f : Int) (c : Clm) : (ticks f c).Nodup := List.nodup_range'
theorem applyC_len (f : Int) (e : EnvL) (c : Clm) : (applyC f e c).1.length = e.1.length ∧ (applyC f e c).2.length = e.2.length := foldC_len c _ e
theorem takeIn_len (f : Int) (cs : List Clm) : ∀ e : EnvL, (takeIn f cs e).1.length = e.1.length ∧ (takeIn f cs e).2.length = e.2.length := by
  unfold takeIn
  induction cs with
  | nil => exact fun e => ⟨rfl, rfl⟩
  | cons c cs ih => exact fun e => ⟨(ih _).1.trans (applyC_len f e c).1, (ih _).2.trans (applyC_len f e c).2⟩
theorem list_ext {a b : List Int} (hl : a.length = b.length) (h : ∀ j, j < a.length → a.getD j 0 = b.getD j 0) : a = b := by
  apply List.ext_getElem hl
  intro j h1 h2
  have := h j h1
  simpa [List.getD_eq_getElem?_getD, List.getElem?_eq_getElem h1, List.getElem?_eq_getElem h2] using this
theorem applyC_comm (f : Int) (e : EnvL) (c d : Clm) : applyC f (applyC f e c) d = applyC f (applyC f e d) c := by
  have lc := applyC_len f e c
  have ld := applyC_len f e d
  have lcd := applyC_len f (applyC f e c) d
  have ldc := applyC_len f (applyC f e d) c
  apply Prod.ext
  · apply list_ext (by rw [lcd.1, ldc.1, lc.1, ld.1])
    intro j hj
    have hj0 : j < e.1.length := by rw [lcd.1, lc.1] at hj; exact hj
    have h1 := (foldC_at d _ (ticks_nodup f d) (applyC f e c) j).1 (by rw [lc.1]; exact hj0)
    have h2 := (foldC_at c _ (ticks_nodup f c) (applyC f e d) j).1 (by rw [ld.1]; exact hj0)
    have h3 := (foldC_at c _ (ticks_nodup f c) e j).1 hj0
    have h4 := (foldC_at d _ (ticks_nodup f d) e j).1 hj0
    unfold applyC at *
    rw [h1, h2, h3, h4]
    split <;> split <;> omega
  · apply list_ext (by rw [lcd.2, ldc.2, lc.2, ld.2])
    intro j hj
    have hj0 : j < e.2.length := by rw [lcd.2, lc.2] at hj; exact hj
    have h1 := (foldC_at d _ (ticks_nodup f d) (applyC f e c) j).2 (by rw [lc.2]; exact hj0)
    have h2 := (foldC_at c _ (ticks_nodup f c) (applyC f e d) j).2 (by rw [ld.2]; exact hj0)
    have h3 := (foldC_at c _ (ticks_nodup f c) e j).2 hj0
    have h4 := (foldC_at d _ (ticks_nodup f d) e j).2 hj0
    unfold applyC at *
    rw [h1, h2, h3, h4]
    split <;> split <;> omega
theorem takeIn_perm (f : Int) {cs ds : List Clm} (h : cs.Perm ds) (e : EnvL) : takeIn f cs e = takeIn f ds e := by
  unfold takeIn
  exact h.foldl_eq' (fun x _ y _ z => applyC_comm f z x y) e
/- the bands that the claims state; the bounds that they imply -/
def claim0 (x : Fin 10 → Int) : Clm := (x 7, x 8, x 3, x 4)
def bandE (x : Fin 10 → Int) (n : Nat) (cs : List Clm) : EnvL := takeIn (x 7) cs (List.replicate n (x 3), List.replicate n (x 4))
def boundE (x : Fin 10 → Int) (n : Nat) (cs : List Clm) : EnvL := passB (x 5) (x 6) n (passF (x 5) (x 6) n (takeIn (x 7) (claim0 x :: cs) (List.replicate n (-1125899906842624), List.replicate n 1125899906842624)))
def clashB (x : Fin 10 → Int) (n : Nat) (cs : List Clm) : Bool := crossB (bandE x n cs).1 (bandE x n cs).2 || crossB (boundE x n cs).1 (boundE x n cs).2
theorem bandE_perm (x : Fin 10 → Int) (n : Nat) {cs ds : List Clm} (h : cs.Perm ds) : bandE x n cs = bandE x n ds := takeIn_perm _ h _
theorem boundE_perm (x : Fin 10 → Int) (n : Nat) {cs ds : List Clm} (h : cs.Perm ds) : boundE x n cs = boundE x n ds := by
  unfold boundE; rw [takeIn_perm _ (h.cons (claim0 x))]
theorem clashB_perm (x : Fin 10 → Int) (n : Nat) {cs ds : List Clm} (h : cs.Perm ds) : clashB x n cs = clashB x n ds := by
  unfold clashB; rw [bandE_perm x n h, boundE_perm x n h]
/- lengths -/
theorem foldl_len {st : EnvL → Nat → EnvL} (hs : ∀ e j, (st e j).1.length = e.1.length ∧ (st e j).2.length = e.2.length) (ts : List Nat) : ∀ e : EnvL, (ts.foldl st e).1.length = e.1.length ∧ (ts.foldl st e).2.length = e.2.length := by
  induction ts with
  | nil => exact fun e => ⟨rfl, rfl⟩
  | cons t ts ih => exact fun e => ⟨(ih _).1.trans (hs e t).1, (ih _).2.trans (hs e t).2⟩
theorem stepF_len (dn up : Int) (e : EnvL) (j : Nat) : (stepF dn up e j).1.length = e.1.length ∧ (stepF dn up e j).2.length = e.2.length := by simp [stepF]
theorem stepB_len (dn up : Int) (e : EnvL) (j : Nat) : (stepB dn up e j).1.length = e.1.length ∧ (stepB dn up e j).2.length = e.2.length := by simp [stepB]
theorem bandE_len (x : Fin 10 → Int) (n : Nat) (cs : List Clm) : (bandE x n cs).1.length = n ∧ (bandE x n cs).2.length = n := by
  have := takeIn_len (x 7) cs (List.replicate n (x 3), List.replicate n (x 4))
  simpa [bandE] using this
theorem boundE_len (x : Fin 10 → Int) (n : Nat) (cs : List Clm) : (boundE x n cs).1.length = n ∧ (boundE x n cs).2.length = n := by
  have h1 := takeIn_len (x 7) (claim0 x :: cs) (List.replicate n (-1125899906842624), List.replicate n 1125899906842624)
  have h2 := foldl_len (stepF_len (x 5) (x 6)) (List.range' 1 (n - 1)) (takeIn (x 7) (claim0 x :: cs) (List.replicate n (-1125899906842624), List.replicate n 1125899906842624))
  have h3 := foldl_len (stepB_len (x 5) (x 6)) (List.range (n - 1)).reverse (passF (x 5) (x 6) n (takeIn (x 7) (claim0 x :: cs) (List.replicate n (-1125899906842624), List.replicate n 1125899906842624)))
  unfold boundE passB
  unfold passF at *
  refine ⟨by rw [h3.1, h2.1, h1.1]; simp, by rw [h3.2, h2.2, h1.2]; simp⟩
end Go.Proofs.YtgkmfblmkfclbaaGreatDoor
