/- Envelopes in plain words: the bounds of a list without a clash are closed, imply its claims, and contain the bounds of no list that they imply. Envelopes in plain words: claims that an envelope implies do not clash. Compressions in plain words: the claims that they return are implied by the old bounds, and valid. envelope.Growth; lossy.below. -/
import Derived.Test.YtgkmfblmkfclbaaGreatDoorBlockSoundP25
import Derived.Test.YtgkmfblmkfclbaaGreatDoorBlockSoundP24
namespace Go.Proofs.YtgkmfblmkfclbaaGreatDoor
open Go.RowKit Pl

theorem crossB_le {lo hi : List Int} (h : crossB lo hi = false) {j : Nat} (h1 : j < lo.length) (h2 : j < hi.length) : lo.getD j 0 ≤ hi.getD j 0 := by
  apply Classical.byContradiction
  intro hn
  have := crossB_yes (lo := lo) (hi := hi) h1 h2 (by omega)
  rw [h] at this
  cases this
theorem getD_rep {n j : Nat} (h : j < n) (y : Int) : (List.replicate n y).getD j 0 = y := by
  rw [List.getD_eq_getElem?_getD, List.getElem?_replicate, if_pos h]; rfl
theorem boundE_good {x : Fin 10 → Int} (hx : GoodD x) {cs : List Clm} (_ : ∀ c ∈ cs, ValidC x c) (hc : clashB x (spanD x) cs = false) :
    Closed (x 5) (x 6) (spanD x) (boundE x (spanD x) cs) ∧ (∀ c ∈ claim0 x :: cs, Implied (x 7) (spanD x) (boundE x (spanD x) cs) c) ∧
    ∀ j, j < spanD x → -1125899906842624 ≤ (boundE x (spanD x) cs).1.getD j 0 ∧ (boundE x (spanD x) cs).1.getD j 0 ≤ (boundE x (spanD x) cs).2.getD j 0 ∧ (boundE x (spanD x) cs).2.getD j 0 ≤ 1125899906842624 := by
  have hs := (spanD_le hx).1
  have hl := boundE_len x (spanD x) cs
  have hcr : crossB (boundE x (spanD x) cs).1 (boundE x (spanD x) cs).2 = false := by
    unfold clashB at hc
    exact (Bool.or_eq_false_iff.1 hc).2
  have hle : ∀ j, j < spanD x → (boundE x (spanD x) cs).1.getD j 0 ≤ (boundE x (spanD x) cs).2.getD j 0 := fun j hj => crossB_le hcr (by rw [hl.1]; exact hj) (by rw [hl.2]; exact hj)
  have hd := hx.down
  have hu := hx.up
  have hu2 := hx.up2
  have ht := takeIn_len (x 7) (claim0 x :: cs) (List.replicate (spanD x) (-1125899906842624), List.replicate (spanD x) 1125899906842624)
  simp only [List.length_replicate] at ht
  have hm1 : ∀ j, j < spanD x → -1125899906842624 ≤ (takeIn (x 7) (claim0 x :: cs) (List.replicate (spanD x) (-1125899906842624), List.replicate (spanD x) 1125899906842624)).1.getD j 0 := fun j hj => by
    have := (takeIn_mono (x 7) j (claim0 x :: cs) (List.replicate (spanD x) (-1125899906842624), List.replicate (spanD x) 1125899906842624)).1 (by simpa using hj)
    rwa [getD_rep hj] at this
  have hm2 : ∀ j, j < spanD x → (takeIn (x 7) (claim0 x :: cs) (List.replicate (spanD x) (-1125899906842624), List.replicate (spanD x) 1125899906842624)).2.getD j 0 ≤ 1125899906842624 := fun j hj => by
    have := (takeIn_mono (x 7) j (claim0 x :: cs) (List.replicate (spanD x) (-1125899906842624), List.replicate (spanD x) 1125899906842624)).2 (by simpa using hj)
    rwa [getD_rep hj] at this
  have hmem := fun (c : Clm) (h : c ∈ claim0 x :: cs) (j : Nat) (hj : j ∈ ticks (x 7) c) => takeIn_mem (x 7) hj (claim0 x :: cs) (List.replicate (spanD x) (-1125899906842624), List.replicate (spanD x) 1125899906842624) h
  unfold boundE at hle ⊢
  generalize takeIn (x 7) (claim0 x :: cs) (List.replicate (spanD x) (-1125899906842624), List.replicate (spanD x) 1125899906842624) = e at *
  obtain ⟨p1, p2⟩ := passes_closed (dn := x 5) (up := x 6) ht.1 ht.2 hs (fun j hj => by have := hm1 j hj; omega) (fun j hj => by have := hm2 j hj; omega) hd hu hu2 hle
  refine ⟨p1, fun c hcm j hj hjn => ?_, fun j hj => ?_⟩
  · have a := hmem c hcm j hj
    have b := p2 j hjn
    have a1 := a.1 (by simpa using hjn)
    have a2 := a.2 (by simpa using hjn)
    omega
  · have b := p2 j hj
    have a1 := hm1 j hj
    have a2 := hm2 j hj
    have a3 := hle j hj
    omega
/- bounds of claims that an old envelope implies contain it -/
theorem boundE_cont {x : Fin 10 → Int} (hx : GoodD x) {cs ds : List Clm} (hv : ∀ c ∈ cs, ValidC x c) (hc : clashB x (spanD x) cs = false) (hd : ∀ c ∈ ds, Implied (x 7) (spanD x) (boundE x (spanD x) cs) c ∧ ValidC x c) : Cont (spanD x) (boundE x (spanD x) cs) (boundE x (spanD x) ds) := by
  obtain ⟨g1, g2, g3⟩ := boundE_good hx hv hc
  have hdn := hx.down
  have hup := hx.up
  have hu2 := hx.up2
  have hlo := hx.lo
  have hhi := hx.hi
  have hhi2 := hx.hi2
  generalize boundE x (spanD x) cs = E at *
  unfold boundE
  refine Cont.passes (Cont.takeIn _ _ ⟨by simp, by simp, fun j hj => ?_, fun j hj => ?_⟩ (fun c hcm => ?_)) g1 (fun j hj => ?_) (by omega) (by omega) (by omega) (by omega)
  · have := g3 j hj
    simp only [getD_rep hj]
    omega
  · have := g3 j hj
    simp only [getD_rep hj]
    omega
  · rcases List.mem_cons.1 hcm with rfl | h
    · exact ⟨g2 _ List.mem_cons_self, by simp [claim0]; omega, by simp [claim0]; omega⟩
    · obtain ⟨a, b⟩ := hd c h
      have b1 := b.lo
      have b2 := b.hi2
      exact ⟨a, by omega, by omega⟩
  · have := g3 j hj
    omega
end Go.Proofs.YtgkmfblmkfclbaaGreatDoor
namespace Go.Proofs.YtgkmfblmkfclbaaGreatDoor
open Go.RowKit Pl

theorem ticks0 {x : Fin 10 → Int} (hx : GoodD x) {j : Nat} (hj : j < spanD x) : j ∈ ticks (x 7) (claim0 x) := by
  have h := spanD_eq hx
  unfold ticks claim0
  simp only [List.mem_range'_1]
  omega
theorem Cont.cross {n : Nat} {E e : EnvL} (h : Cont n E e) (hE : ∀ j, j < n → E.1.getD j 0 ≤ E.2.getD j 0) : crossB e.1 e.2 = false :=
  crossB_no fun j h1 _ => by
    have hj : j < n := by rw [h.len1] at h1; exact h1
    have a := h.lo j hj
    have b := h.hi j hj
    have c := hE j hj
    omega
theorem clash_none {x : Fin 10 → Int} (hx : GoodD x) {cs ds : List Clm} (hv : ∀ c ∈ cs, ValidC x c) (hc : clashB x (spanD x) cs = false) (hd : ∀ c ∈ ds, Implied (x 7) (spanD x) (boundE x (spanD x) cs) c ∧ ValidC x c) : clashB x (spanD x) ds = false := by
  have hcont := boundE_cont hx hv hc hd
  obtain ⟨g1, g2, g3⟩ := boundE_good hx hv hc
  have hlo := hx.lo
  have hhi := hx.hi
  have hhi2 := hx.hi2
  have hle : ∀ j, j < spanD x → (boundE x (spanD x) cs).1.getD j 0 ≤ (boundE x (spanD x) cs).2.getD j 0 := fun j hj => (g3 j hj).2.1
  have hband : Cont (spanD x) (boundE x (spanD x) cs) (bandE x (spanD x) ds) := by
    unfold bandE
    refine Cont.takeIn _ _ ⟨by simp, by simp, fun j hj => ?_, fun j hj => ?_⟩ (fun c hcm => ?_)
    · have := (g2 _ List.mem_cons_self j (ticks0 hx hj) hj).1
      simp only [getD_rep hj]
      simp only [claim0] at this
      omega
    · have := (g2 _ List.mem_cons_self j (ticks0 hx hj) hj).2
      simp only [getD_rep hj]
      simp only [claim0] at this
      omega
    · obtain ⟨a, b⟩ := hd c hcm
      have b1 := b.lo
      have b2 := b.hi2
      exact ⟨a, by omega, by omega⟩
  unfold clashB
  rw [hband.cross hle, hcont.cross hle]
  rfl
end Go.Proofs.YtgkmfblmkfclbaaGreatDoor
namespace Go.Proofs.YtgkmfblmkfclbaaGreatDoor
open Go.RowKit Pl

/- the greatest multiple of q that is not greater -/
def belowI (n q : Int) : Int := n - n % q
theorem belowI_le {n q : Int} (h : 1 ≤ q) : belowI n q ≤ n ∧ n - q < belowI n q := by
  have h1 := Int.emod_nonneg n (b := q) (by omega)
  have h2 := Int.emod_lt_of_pos n (b := q) (by omega)
  unfold belowI; omega
def widC (q : Int) (c : Clm) : Clm := (c.1, c.2.1, max (belowI c.2.2.1 q) (-1099511627776), min (-(belowI (-c.2.2.2) q)) 1099511627776)
theorem widC_ok {x : Fin 10 → Int} {n : Nat} {E : EnvL} {q : Int} (hq : 1 ≤ q) {c : Clm} (h : Implied (x 7) n E c) (hv : ValidC x c) : Implied (x 7) n E (widC q c) ∧ ValidC x (widC q c) := by
  have a := belowI_le (n := c.2.2.1) hq
  have b := belowI_le (n := -c.2.2.2) hq
  obtain ⟨v1, v2, v3, v4, v5, v6⟩ := hv
  refine ⟨fun j hj hn => ?_, ⟨v1, v2, v3, ?_, ?_, ?_⟩⟩
  · have := h j hj hn
    simp only [widC]
    omega
  · simp only [widC]; omega
  · simp only [widC]; omega
  · simp only [widC]; omega
/- one tick with the old bounds -/
def pointC (E : EnvL) (t : Int) (j : Nat) : Clm := (t, t, E.1.getD j 0, E.2.getD j 0)
theorem pointC_ok {x : Fin 10 → Int} (hx : GoodD x) {E : EnvL} {t : Int} {j : Nat} (ht : t = x 7 + (j : Int)) (hj : j < spanD x) (hE : ∀ j, j < spanD x → -1099511627776 ≤ E.1.getD j 0 ∧ E.1.getD j 0 ≤ E.2.getD j 0 ∧ E.2.getD j 0 ≤ 1099511627776) : Implied (x 7) (spanD x) E (pointC E t j) ∧ ValidC x (pointC E t j) := by
  have hs := spanD_eq hx
  have he := hE j hj
  refine ⟨fun i hi hn => ?_, ⟨?_, ?_, ?_, he.1, he.2.1, he.2.2⟩⟩
  · unfold ticks pointC at hi
    simp only [List.mem_range'_1] at hi
    obtain rfl : i = j := by omega
    exact ⟨Int.le_refl _, Int.le_refl _⟩
  · simp only [pointC]; omega
  · simp only [pointC]; omega
  · simp only [pointC]; omega
/- a claim over some ticks that holds the old bounds of each, and one tick more -/
def growC (E : EnvL) (c : Clm) (t : Int) (j : Nat) : Clm := (c.1, t, min c.2.2.1 (E.1.getD j 0), max c.2.2.2 (E.2.getD j 0))
theorem growC_ok {x : Fin 10 → Int} (hx : GoodD x) {E : EnvL} {t : Int} {j : Nat} (ht : t = x 7 + (j : Int)) (hj : j < spanD x) (hE : ∀ j, j < spanD x → -1099511627776 ≤ E.1.getD j 0 ∧ E.1.getD j 0 ≤ E.2.getD j 0 ∧ E.2.getD j 0 ≤ 1099511627776) {c : Clm} (h : Implied (x 7) (spanD x) E c) (hv : ValidC x c) (hl : c.2.1 + 1 = t) : Implied (x 7) (spanD x) E (growC E c t j) ∧ ValidC x (growC E c t j) := by
  have hs := spanD_eq hx
  have he := hE j hj
  obtain ⟨v1, v2, v3, v4, v5, v6⟩ := hv
  refine ⟨fun i hi hn => ?_, ⟨v1, ?_, ?_, ?_, ?_, ?_⟩⟩
  · by_cases hij : i = j
    · subst hij
      simp only [growC]; omega
    · have hi' : i ∈ ticks (x 7) c := by
        unfold ticks growC at hi
        unfold ticks
        simp only [List.mem_range'_1] at hi ⊢
        omega
      have := h i hi' hn
      simp only [growC]; omega
  · simp only [growC]; omega
  · simp only [growC]; omega
  · simp only [growC]; omega
  · simp only [growC]; omega
  · simp only [growC]; omega
/- the old bounds lie in the declared range -/
theorem boundE_small {x : Fin 10 → Int} (hx : GoodD x) {cs : List Clm} (hv : ∀ c ∈ cs, ValidC x c) (hc : clashB x (spanD x) cs = false) : ∀ j, j < spanD x → x 3 ≤ (boundE x (spanD x) cs).1.getD j 0 ∧ (boundE x (spanD x) cs).1.getD j 0 ≤ (boundE x (spanD x) cs).2.getD j 0 ∧ (boundE x (spanD x) cs).2.getD j 0 ≤ x 4 := fun j hj => by
  obtain ⟨-, g2, g3⟩ := boundE_good hx hv hc
  have a := g2 _ List.mem_cons_self j (ticks0 hx hj) hj
  simp only [claim0] at a
  exact ⟨a.1, (g3 j hj).2.1, a.2⟩
/- a valid claim can be encoded -/
theorem okC_valid {x : Fin 10 → Int} (hx : GoodD x) {c : Clm} (h : ValidC x c) : okC c := by
  obtain ⟨v1, v2, v3, v4, v5, v6⟩ := h
  have h1 := hx.first
  have h2 := hx.last2
  unfold okC R40
  omega
/- how much wider the widest tick is, where both lie in the declared range -/
theorem growth_small {x : Fin 10 → Int} {N : Nat} {E e : EnvL} (h : Cont N E e) (hE : ∀ j, j < N → x 3 ≤ E.1.getD j 0 ∧ E.1.getD j 0 ≤ E.2.getD j 0 ∧ E.2.getD j 0 ≤ x 4) (he : ∀ j, j < N → x 3 ≤ e.1.getD j 0 ∧ e.1.getD j 0 ≤ e.2.getD j 0 ∧ e.2.getD j 0 ≤ x 4) {j : Nat} (hj : j < N) :
    0 ≤ (e.2.getD j 0 - e.1.getD j 0) - (E.2.getD j 0 - E.1.getD j 0) ∧ (e.2.getD j 0 - e.1.getD j 0) - (E.2.getD j 0 - E.1.getD j 0) ≤ x 4 - x 3 := by
  have a := h.lo j hj
  have b := h.hi j hj
  have c := hE j hj
  have d := he j hj
  omega
/- a claim for each window -/
def rollS (f w : Int) (E : EnvL) (rs : List Clm) (j : Nat) : List Clm :=
  if j = 0 ∨ (f + (j : Int)) % w = 0 then rs ++ [pointC E (f + (j : Int)) j] else rs.dropLast ++ [growC E (rs.getLastD zc) (f + (j : Int)) j]
theorem rollS_ok {x : Fin 10 → Int} (hx : GoodD x) {w : Int} {E : EnvL} (hE : ∀ j, j < spanD x → -1099511627776 ≤ E.1.getD j 0 ∧ E.1.getD j 0 ≤ E.2.getD j 0 ∧ E.2.getD j 0 ≤ 1099511627776) : ∀ (k : Nat), k ≤ spanD x →
    (∀ c ∈ (List.range k).foldl (rollS (x 7) w E) [], Implied (x 7) (spanD x) E c ∧ ValidC x c) ∧ (0 < k → ∃ rs c, (List.range k).foldl (rollS (x 7) w E) [] = rs ++ [c] ∧ c.2.1 + 1 = x 7 + (k : Int))
  | 0, _ => ⟨by simp, fun h => by omega⟩
  | k + 1, hk => by
    obtain ⟨i1, i2⟩ := rollS_ok hx hE (w := w) k (by omega)
    rw [List.range_succ, List.foldl_append, List.foldl_cons, List.foldl_nil]
    generalize (List.range k).foldl (rollS (x 7) w E) [] = rs at *
    unfold rollS
    split
    · refine ⟨fun c hc => ?_, fun _ => ⟨rs, _, rfl, by simp [pointC]; omega⟩⟩
      rcases List.mem_append.1 hc with hc | hc
      · exact i1 c hc
      · obtain rfl := List.mem_singleton.1 hc
        exact pointC_ok hx rfl (by omega) hE
    · rename_i hno
      obtain ⟨rs', c', rfl, he⟩ := i2 (by omega)
      refine ⟨fun c hc => ?_, fun _ => ⟨_, _, rfl, by simp [growC]; omega⟩⟩
      rcases List.mem_append.1 hc with hc | hc
      · exact i1 c (List.dropLast_subset _ hc)
      · obtain rfl := List.mem_singleton.1 hc
        have e : (rs' ++ [c']).getLastD zc = c' := by simp
        rw [e]
        obtain ⟨a, b⟩ := i1 c' (by simp)
        exact growC_ok hx rfl (by omega) hE a b he
end Go.Proofs.YtgkmfblmkfclbaaGreatDoor
namespace Go.Proofs.YtgkmfblmkfclbaaGreatDoor
open Go.RowKit Pl

/- how much wider a tick is; the widest tick -/
def dG (E e : List Int × List Int) (j : Nat) : Int := (e.2.getD j 0 - e.1.getD j 0) - (E.2.getD j 0 - E.1.getD j 0)
def growV (E e : List Int × List Int) : Nat → Int
  | 0 => 0
  | k + 1 => if k = 0 ∨ growV E e k < dG E e k then dG E e k else growV E e k
theorem growV_le (E e : List Int × List Int) : ∀ (k j : Nat), j < k → dG E e j ≤ growV E e k
  | 0, _, h => by omega
  | k + 1, j, h => by
    have ih := growV_le E e k
    unfold growV
    rcases Nat.lt_or_ge j k with h1 | h1
    · have := ih j h1
      split <;> omega
    · obtain rfl : j = k := by omega
      split
      · omega
      · omega
theorem growV_some (E e : List Int × List Int) : ∀ (k : Nat), 0 < k → ∃ j, j < k ∧ growV E e k = dG E e j
  | 0, h => by omega
  | k + 1, _ => by
    unfold growV
    by_cases h : k = 0 ∨ growV E e k < dG E e k
    · rw [if_pos h]; exact ⟨k, by omega, rfl⟩
    · rw [if_neg h]
      obtain ⟨j, h1, h2⟩ := growV_some E e k (by omega)
      exact ⟨j, by omega, h2⟩
set_option maxHeartbeats 3200000 in
set_option maxRecDepth 100000 in
theorem growth_any (f : Int) (l h l' h' : List Int) (A B C D : Option Addr) (c d p q n : Nat) (w : World) (hl : Rd w w.heap.size (.slice A n c) (l.map vi)) (hh : Rd w w.heap.size (.slice B n d) (h.map vi)) (hl' : Rd w w.heap.size (.slice C n p) (l'.map vi)) (hh' : Rd w w.heap.size (.slice D n q) (h'.map vi)) (hn0 : 1 ≤ n) (hn : n ≤ 1000000)
    (hb : ∀ j, j < n → (-1099511627776 ≤ l.getD j 0 ∧ l.getD j 0 ≤ 1099511627776) ∧ (-1099511627776 ≤ h.getD j 0 ∧ h.getD j 0 ≤ 1099511627776) ∧ (-1099511627776 ≤ l'.getD j 0 ∧ l'.getD j 0 ≤ 1099511627776) ∧ (-1099511627776 ≤ h'.getD j 0 ∧ h'.getD j 0 ≤ 1099511627776)) :
    Calls Tryz.prog 13 #[venv f (.slice A n c) (.slice B n d), venv f (.slice C n p) (.slice D n q)] w fun e w' => e = .returned (.tuple #[.int .i64 (growV (l, h) (l', h') n), .int .i64 0]) ∧ Grew w w' := by
  have HB := Lib.hid (two3 w f (.slice A n c) (.slice B n d) f (.slice C n p) (.slice D n q))
  have hG := (((Grew.refl w).alloc (.cells (cells3 f (.slice A n c) (.slice B n d)).toArray 32)).alloc (.cells (cells3 f (.slice C n p) (.slice D n q)).toArray 32))
  have len : ∀ (E : Option Addr) (k : Nat) (x : List Int), Rd w w.heap.size (.slice E n k) (x.map vi) → n = x.length := fun E k x r => by obtain ⟨_, _, _, e, h, _⟩ := r.form; injection e with _ e; subst e; simpa using h
  have H1 := Lib.hid hl
  have H2 := Lib.hid hh
  have H3 := Lib.hid hl'
  have H4 := Lib.hid hh'
  have N1 := Lib.hid (len _ _ _ hl)
  have N2 := Lib.hid (len _ _ _ hh)
  have N3 := Lib.hid (len _ _ _ hl')
  have N4 := Lib.hid (len _ _ _ hh')
  have HBd := Lib.hid hb
  have HAl := Lib.hid (fun w' => alike_any f A B C D n c d p q w' hn)
  have tn : ((n : Int) == 0) = false := by rw [beq_eq_false_iff_ne]; omega
  clear hl hh hl' hh' len hb
  unfold venv at HAl ⊢
  go_enter Tryz.func13, Tryz.ntmps13
  go_upto_region 1 with fail
  generalize (w.alloc (.cells (cells3 f (.slice A n c) (.slice B n d)).toArray 32)).alloc (.cells (cells3 f (.slice C n p) (.slice D n q)).toArray 32) = w1 at *
  obtain ⟨b1, b2⟩ := HB.out w1 (Grew.refl w1)
  have HG := Lib.hid hG
  clear hG
  go_wp2_with (first | (refine ldN 32 Tryz.underlying32 rfl (.tmp 2) w.heap.size (cells3 f (.slice A n c) (.slice B n d)) 32 (by kernel_rfl) rfl rfl rfl b1 ?_) | (refine ldN 32 Tryz.underlying32 rfl (.tmp 3) (w.heap.size + 1) (cells3 f (.slice C n p) (.slice D n q)) 32 (by kernel_rfl) rfl rfl rfl b2 ?_))
  refine (HAl.out w1).mono ?_
  rintro e w2 ⟨rfl, k2⟩
  have c1 : ∀ m, (w2.drewN m).cell? ⟨w.heap.size, 1, none⟩ = some (.slice A n c) := fun m => (b1.grew k2).cell 1
  have c2 : ∀ m, (w2.drewN m).cell? ⟨w.heap.size, 2, none⟩ = some (.slice B n d) := fun m => (b1.grew k2).cell 2
  have d1 : ∀ m, (w2.drewN m).cell? ⟨w.heap.size + 1, 1, none⟩ = some (.slice C n p) := fun m => (b2.grew k2).cell 1
  have d2 : ∀ m, (w2.drewN m).cell? ⟨w.heap.size + 1, 2, none⟩ = some (.slice D n q) := fun m => (b2.grew k2).cell 2
  have c1' := c1 0
  have c2' := c2 0
  have d1' := d1 0
  have d2' := d2 0
  rw [show w2.drewN 0 = w2 from rfl] at c1' c2' d1' d2'
  have HG2 := Lib.hid (HG.out.trans k2)
  clear b1 b2 HB HAl HG k2 c1 c2 d1 d2
  go_wp2_with fail
  go_loopw [6, 22] (fun a i wr => ∃ (j m : Nat), j ≤ n ∧ i = .int .i64 (j : Nat) ∧ a = .int .i64 (growV (l, h) (l', h') j) ∧ wr = w2.drewN m) (fun _ i _ => n - (intOf i).toNat)
  case atStart => exact ⟨0, 0, by omega, rfl, rfl, rfl⟩
  case round =>
    obtain ⟨j, m, hj, rfl, rfl, rfl⟩ := hrel
    by_cases hlt : j < n
    · obtain ⟨a1, rfl, _, e1⟩ := (H1.out.grew (Nat.le_refl _) HG2.out).int_at (j := j) (by rw [← N1.out]; exact hlt)
      obtain ⟨a2, rfl, _, e2⟩ := (H2.out.grew (Nat.le_refl _) HG2.out).int_at (j := j) (by rw [← N2.out]; exact hlt)
      obtain ⟨a3, rfl, _, e3⟩ := (H3.out.grew (Nat.le_refl _) HG2.out).int_at (j := j) (by rw [← N3.out]; exact hlt)
      obtain ⟨a4, rfl, _, e4⟩ := (H4.out.grew (Nat.le_refl _) HG2.out).int_at (j := j) (by rw [← N4.out]; exact hlt)
      obtain ⟨⟨p1, p1'⟩, ⟨p2, p2'⟩, ⟨p3, p3'⟩, ⟨p4, p4'⟩⟩ := HBd.out j hlt
      have HDG := Lib.hid (show dG (l, h) (l', h') j = (h'.getD j 0 - l'.getD j 0) - (h.getD j 0 - l.getD j 0) from rfl)
      have HGv := Lib.hid (show growV (l, h) (l', h') (j + 1) = if j = 0 ∨ growV (l, h) (l', h') j < dG (l, h) (l', h') j then dG (l, h) (l', h') j else growV (l, h) (l', h') j from rfl)
      generalize growV (l, h) (l', h') j = gv at *
      generalize dG (l, h) (l', h') j = dv at *
      generalize l.getD j 0 = x1 at *
      generalize h.getD j 0 = x2 at *
      generalize l'.getD j 0 = x3 at *
      generalize h'.getD j 0 = x4 at *
      have s1 : IntKind.i64.wrap (x4 - x3) = x4 - x3 := IntWalk.i64_in _ (by omega)
      have s2 : IntKind.i64.wrap (x2 - x1) = x2 - x1 := IntWalk.i64_in _ (by omega)
      have s3 : IntKind.i64.wrap (x4 - x3 - (x2 - x1)) = x4 - x3 - (x2 - x1) := IntWalk.i64_in _ (by omega)
      go_wp2_with fail
      go_quiet (fail)
      rw [← HDG.out]
      clear s1 s2 s3 e1 e2 e3 e4 p1 p1' p2 p2' p3 p3' p4 p4' c1' c2' d1' d2'
      by_cases h0 : j = 0
      · have t0 : ((j : Int) == 0) = true := by rw [beq_iff_eq]; omega
        have HV := Lib.hid (show growV (l, h) (l', h') (j + 1) = dv from by rw [HGv.out, if_pos (.inl h0)])
        clear h0
        go_wp2_with fail
        go_roundw
        case rel => exact ⟨j + 1, _, by omega, by go_num, by rw [HV.out], rfl⟩
        case measure => simp [intOf]; omega
      · have t0 : ((j : Int) == 0) = false := by rw [beq_eq_false_iff_ne]; omega
        by_cases h1 : gv < dv
        · have t1 : decide (gv < dv) = true := by simpa using h1
          have HV := Lib.hid (show growV (l, h) (l', h') (j + 1) = dv from by rw [HGv.out, if_pos (.inr h1)])
          clear h0 h1
          go_wp2_with fail
          go_roundw
          case rel => exact ⟨j + 1, _, by omega, by go_num, by rw [HV.out], rfl⟩
          case measure => simp [intOf]; omega
        · have t1 : decide (gv < dv) = false := by simpa using h1
          have HV := Lib.hid (show growV (l, h) (l', h') (j + 1) = gv from by rw [HGv.out, if_neg (by omega)])
          clear h0 h1
          go_wp2_with fail
          go_roundw
          case rel => exact ⟨j + 1, _, by omega, by go_num, by rw [HV.out], rfl⟩
          case measure => simp [intOf]; omega
    · obtain rfl : j = n := by omega
      go_wp2_with fail
      go_ret2
      exact ⟨rfl, Keeps.drewN HG2.out _⟩
end Go.Proofs.YtgkmfblmkfclbaaGreatDoor
