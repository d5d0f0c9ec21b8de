/- envelope.alike, crossed, Within. -/
import Derived.Test.YtggnifejlheebaaDoorCodecEnvelopeP25
import Derived.Test.YtggnifejlheebaaDoorCodecEnvelopeP08
import Derived.Deep.DeepCutAuto
import Derived.Deep.QuietTactic
namespace Go.Proofs.YtggnifejlheebaaDoor
open Go.RowKit Pl

/- an envelope xs a value -/
def cells3 (f : Int) (l h : Value) : List Value := [.int .i64 f, l, h]
def venv (f : Int) (l h : Value) : Value := .agg (cells3 f l h).toArray
/- two envelopes in boxes -/
theorem two3 (w : World) (f : Int) (l h : Value) (f' : Int) (l' h' : Value) : ∀ w', Grew ((w.alloc (.cells (cells3 f l h).toArray 39)).alloc (.cells (cells3 f' l' h').toArray 39)) w' →
    Box w' w.heap.size 39 (cells3 f l h).toArray ∧ Box w' (w.heap.size + 1) 39 (cells3 f' l' h').toArray := fun w' g => by
  have h1 := ((Box.new w 39 (cells3 f l h).toArray).alloc (.cells (cells3 f' l' h').toArray 39)).grew g
  have h2 := (Box.new (w.alloc (.cells (cells3 f l h).toArray 39)) 39 (cells3 f' l' h').toArray).grew g
  rw [World.size_alloc] at h2
  exact ⟨h1, h2⟩
set_option maxHeartbeats 1600000 in
theorem alike_any (f : Int) (A B C D : Option Addr) (n c d p q : Nat) (w : World) (_ : n ≤ 1000000) :
    Calls Tryd.prog 36 #[venv f (.slice A n c) (.slice B n d), venv f (.slice C n p) (.slice D n q)] w fun e w' => e = .returned (.bool true) ∧ Grew w w' := by
  have HB := Lib.hid (two3 w f (.slice A n c) (.slice B n d) f (.slice C n p) (.slice D n q))
  have HG := Lib.hid (((Grew.refl w).alloc (.cells (cells3 f (.slice A n c) (.slice B n d)).toArray 39)).alloc (.cells (cells3 f (.slice C n p) (.slice D n q)).toArray 39))
  have tf : (f == f) = true := by simp
  have tn : ((n : Int) == (n : Int)) = true := by simp
  unfold venv
  go_enter Tryd.func36, Tryd.ntmps36
  go_upto_region 1 with fail
  generalize (w.alloc (.cells (cells3 f (.slice A n c) (.slice B n d)).toArray 39)).alloc (.cells (cells3 f (.slice C n p) (.slice D n q)).toArray 39) = w1 at *
  obtain ⟨b1, b2⟩ := HB.out w1 (Grew.refl w1)
  have c0 : w1.cell? ⟨w.heap.size, 0, none⟩ = some (.int .i64 f) := b1.cell 0
  have c1 : w1.cell? ⟨w.heap.size, 1, none⟩ = some (.slice A n c) := b1.cell 1
  have c2 : w1.cell? ⟨w.heap.size, 2, none⟩ = some (.slice B n d) := b1.cell 2
  have d0 : w1.cell? ⟨w.heap.size + 1, 0, none⟩ = some (.int .i64 f) := b2.cell 0
  have d1 : w1.cell? ⟨w.heap.size + 1, 1, none⟩ = some (.slice C n p) := b2.cell 1
  have d2 : w1.cell? ⟨w.heap.size + 1, 2, none⟩ = some (.slice D n q) := b2.cell 2
  clear b1 b2 HB
  go_wp2_with fail
  go_ret
  exact ⟨rfl, HG.out⟩

/- a lower bound above an upper bound -/
def crossB : List Int → List Int → Bool
  | a :: xs, b :: ys => decide (b < a) || crossB xs ys
  | _, _ => false
theorem crossB_yes : ∀ {lo hi : List Int} {j : Nat}, j < lo.length → j < hi.length → hi.getD j 0 < lo.getD j 0 → crossB lo hi = true
  | a :: xs, b :: ys, 0, _, _, h => by
    have : decide (b < a) = true := by simpa using h
    simp [crossB, this]
  | a :: xs, b :: ys, j + 1, h1, h2, h => by
    have := crossB_yes (lo := xs) (hi := ys) (j := j) (by simpa using h1) (by simpa using h2) (by simpa using h)
    simp [crossB, this]
theorem crossB_no : ∀ {lo hi : List Int}, (∀ j, j < lo.length → j < hi.length → ¬ hi.getD j 0 < lo.getD j 0) → crossB lo hi = false
  | [], _, _ => by simp [crossB]
  | _ :: _, [], _ => by simp [crossB]
  | a :: xs, b :: ys, h => by
    have h0 := h 0 (by simp) (by simp)
    have h1 : decide (b < a) = false := by simpa using h0
    have := crossB_no (lo := xs) (hi := ys) (fun j h1 h2 => by have := h (j + 1) (by simpa using h1) (by simpa using h2); simpa using this)
    simp [crossB, h1, this]
set_option maxHeartbeats 1600000 in
theorem crossed_any (f f' : Int) (l h : List Int) (A : Option Addr) (c : Nat) (v u : Value) (B : Option Addr) (d : Nat) (n : Nat) (w : World) (_ : v.oneCell' = true) (_ : u.oneCell' = true) (hl : Rd w w.heap.size (.slice A n c) (l.map vi)) (hh : Rd w w.heap.size (.slice B n d) (h.map vi)) (hn : n ≤ 1000000) :
    Calls Tryd.prog 29 #[venv f (.slice A n c) v, venv f' u (.slice B n d)] w fun e w' => e = .returned (.bool (crossB l h)) ∧ Grew w w' := by
  have HB := Lib.hid (two3 w f (.slice A n c) v f' u (.slice B n d))
  have hG := (((Grew.refl w).alloc (.cells (cells3 f (.slice A n c) v).toArray 39)).alloc (.cells (cells3 f' u (.slice B n d)).toArray 39))
  have hnl : n = l.length := by obtain ⟨_, _, _, e, h, _⟩ := hl.form; injection e with _ e; subst e; simpa using h
  have hnh : n = h.length := by obtain ⟨_, _, _, e, h, _⟩ := hh.form; injection e with _ e; subst e; simpa using h
  have HL := Lib.hid hl
  have HH := Lib.hid hh
  have HNL := Lib.hid hnl
  have HNH := Lib.hid hnh
  clear hl hh hnl hnh
  unfold venv
  go_enter Tryd.func29, Tryd.ntmps29
  go_upto_region 1 with fail
  generalize (w.alloc (.cells (cells3 f (.slice A n c) v).toArray 39)).alloc (.cells (cells3 f' u (.slice B n d)).toArray 39) = w1 at *
  obtain ⟨b1, b2⟩ := HB.out w1 (Grew.refl w1)
  have c1 : w1.cell? ⟨w.heap.size, 1, none⟩ = some (.slice A n c) := b1.cell 1
  have d2 : w1.cell? ⟨w.heap.size + 1, 2, none⟩ = some (.slice B n d) := b2.cell 2
  have HG := Lib.hid hG
  clear b1 b2 HB hG
  go_wp2_with fail
  go_loopw [10] (fun i wr => ∃ (j : Nat), j ≤ n ∧ i = .int .i64 (j : Nat) ∧ (∀ k, k < j → ¬ h.getD k 0 < l.getD k 0) ∧ wr = w1) (fun i _ => n - (intOf i).toNat)
  case atStart => exact ⟨0, by omega, rfl, fun k hk => by omega, rfl⟩
  case round =>
    obtain ⟨j, hj, rfl, hall, rfl⟩ := hrel
    have HA := Lib.hid hall
    clear hall
    by_cases hlt : j < n
    · obtain ⟨a1, rfl, _, e1⟩ := (HL.out.grew (Nat.le_refl _) HG.out).int_at (j := j) (by rw [← HNL.out]; exact hlt)
      obtain ⟨a2, rfl, _, e2⟩ := (HH.out.grew (Nat.le_refl _) HG.out).int_at (j := j) (by rw [← HNH.out]; exact hlt)
      by_cases hx : h.getD j 0 < l.getD j 0
      · have HC := Lib.hid (crossB_yes (lo := l) (hi := h) (j := j) (by rw [← HNL.out]; exact hlt) (by rw [← HNH.out]; exact hlt) hx)
        generalize h.getD j 0 = y at *
        generalize l.getD j 0 = x at *
        have tx : decide (y < x) = true := by simpa using hx
        clear hx
        go_wp2_with fail
        go_ret
        exact ⟨by rw [HC.out]; rfl, HG.out⟩
      · have HS := Lib.hid (show ∀ k, k < j + 1 → ¬ h.getD k 0 < l.getD k 0 from fun k hk => by
          rcases Nat.lt_or_ge k j with h1 | h1
          · exact HA.out k h1
          · obtain rfl : k = j := by omega
            exact hx)
        generalize h.getD j 0 = y at *
        generalize l.getD j 0 = x at *
        have tx : decide (y < x) = false := by simpa using hx
        clear hx
        go_wp2_with fail
        go_roundw
        case rel => exact ⟨j + 1, by omega, by go_num, HS.out, trivial⟩
        case measure => simp [intOf]; omega
    · have HC := Lib.hid (crossB_no (lo := l) (hi := h) (fun k h1 _ => HA.out k (by rw [← HNL.out] at h1; omega)))
      go_wp2_with fail
      go_ret
      exact ⟨by rw [HC.out]; rfl, HG.out⟩
set_option maxHeartbeats 3200000 in
theorem within_any (f : Int) (l h l' h' : List Int) (A B C D : Option Addr) (c d p q n : Nat) (w : World) (hl : Rd w w.heap.size (.slice A n c) (l.map vi)) (hh : Rd w w.heap.size (.slice B n d) (h.map vi)) (hl' : Rd w w.heap.size (.slice C n p) (l'.map vi)) (hh' : Rd w w.heap.size (.slice D n q) (h'.map vi)) (hn : n ≤ 1000000)
    (hle : ∀ j, j < n → l'.getD j 0 ≤ l.getD j 0 ∧ h.getD j 0 ≤ h'.getD j 0) :
    Calls Tryd.prog 11 #[venv f (.slice A n c) (.slice B n d), venv f (.slice C n p) (.slice D n q)] w fun e w' => e = .returned (.bool true) ∧ Grew w w' := by
  have HB := Lib.hid (two3 w f (.slice A n c) (.slice B n d) f (.slice C n p) (.slice D n q))
  have hG := (((Grew.refl w).alloc (.cells (cells3 f (.slice A n c) (.slice B n d)).toArray 39)).alloc (.cells (cells3 f (.slice C n p) (.slice D n q)).toArray 39))
  have len : ∀ (E : Option Addr) (k : Nat) (x : List Int), Rd w w.heap.size (.slice E n k) (x.map vi) → n = x.length := fun E k x r => by obtain ⟨_, _, _, e, h, _⟩ := r.form; injection e with _ e; subst e; simpa using h
  have H1 := Lib.hid hl
  have H2 := Lib.hid hh
  have H3 := Lib.hid hl'
  have H4 := Lib.hid hh'
  have N1 := Lib.hid (len _ _ _ hl)
  have N2 := Lib.hid (len _ _ _ hh)
  have N3 := Lib.hid (len _ _ _ hl')
  have N4 := Lib.hid (len _ _ _ hh')
  have HLe := Lib.hid hle
  have HAl := Lib.hid (fun w' => alike_any f A B C D n c d p q w' hn)
  clear hl hh hl' hh' len hle
  unfold venv at HAl ⊢
  go_enter Tryd.func11, Tryd.ntmps11
  go_upto_region 1 with fail
  generalize (w.alloc (.cells (cells3 f (.slice A n c) (.slice B n d)).toArray 39)).alloc (.cells (cells3 f (.slice C n p) (.slice D n q)).toArray 39) = w1 at *
  obtain ⟨b1, b2⟩ := HB.out w1 (Grew.refl w1)
  have HG := Lib.hid hG
  clear hG
  go_wp2_with (first | (refine ldN 39 Tryd.underlying39 rfl (.tmp 2) w.heap.size (cells3 f (.slice A n c) (.slice B n d)) 39 (by kernel_rfl) rfl rfl rfl b1 ?_) | (refine ldN 39 Tryd.underlying39 rfl (.tmp 3) (w.heap.size + 1) (cells3 f (.slice C n p) (.slice D n q)) 39 (by kernel_rfl) rfl rfl rfl b2 ?_))
  refine (HAl.out w1).mono ?_
  rintro e w2 ⟨rfl, k2⟩
  have c1 : ∀ m, (w2.drewN m).cell? ⟨w.heap.size, 1, none⟩ = some (.slice A n c) := fun m => (b1.grew k2).cell 1
  have c2 : ∀ m, (w2.drewN m).cell? ⟨w.heap.size, 2, none⟩ = some (.slice B n d) := fun m => (b1.grew k2).cell 2
  have d1 : ∀ m, (w2.drewN m).cell? ⟨w.heap.size + 1, 1, none⟩ = some (.slice C n p) := fun m => (b2.grew k2).cell 1
  have d2 : ∀ m, (w2.drewN m).cell? ⟨w.heap.size + 1, 2, none⟩ = some (.slice D n q) := fun m => (b2.grew k2).cell 2
  have c1' := c1 0
  have c2' := c2 0
  have d1' := d1 0
  have d2' := d2 0
  rw [show w2.drewN 0 = w2 from rfl] at c1' c2' d1' d2'
  have HG2 := Lib.hid (HG.out.trans k2)
  clear b1 b2 HB HAl HG k2 c1 c2 d1 d2
  go_wp2_with fail
  go_loopw [13] (fun i wr => ∃ (j m : Nat), j ≤ n ∧ i = .int .i64 (j : Nat) ∧ wr = w2.drewN m) (fun i _ => n - (intOf i).toNat)
  case atStart => exact ⟨0, 0, by omega, rfl, rfl⟩
  case round =>
    obtain ⟨j, m, hj, rfl, rfl⟩ := hrel
    by_cases hlt : j < n
    · obtain ⟨a1, rfl, _, e1⟩ := (H1.out.grew (Nat.le_refl _) HG2.out).int_at (j := j) (by rw [← N1.out]; exact hlt)
      obtain ⟨a2, rfl, _, e2⟩ := (H2.out.grew (Nat.le_refl _) HG2.out).int_at (j := j) (by rw [← N2.out]; exact hlt)
      obtain ⟨a3, rfl, _, e3⟩ := (H3.out.grew (Nat.le_refl _) HG2.out).int_at (j := j) (by rw [← N3.out]; exact hlt)
      obtain ⟨a4, rfl, _, e4⟩ := (H4.out.grew (Nat.le_refl _) HG2.out).int_at (j := j) (by rw [← N4.out]; exact hlt)
      obtain ⟨q1, q2⟩ := HLe.out j hlt
      generalize l.getD j 0 = x1 at *
      generalize h.getD j 0 = x2 at *
      generalize l'.getD j 0 = x3 at *
      generalize h'.getD j 0 = x4 at *
      have t1 : decide (x1 < x3) = false := by simpa using q1
      have t2 : decide (x4 < x2) = false := by simpa using q2
      clear q1 q2
      go_wp2_with fail
      go_quiet (fail)
      go_wp2_with fail
      go_roundw
      case rel => exact ⟨j + 1, _, by omega, by go_num, rfl⟩
      case measure => simp [intOf]; omega
    · go_wp2_with fail
      go_ret
      exact ⟨rfl, Keeps.drewN HG2.out _⟩
end Go.Proofs.YtggnifejlheebaaDoor
