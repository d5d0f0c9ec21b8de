/- claims.Compare: the order of claims by their four numbers. -/
import Derived.Test.YtgkmfblmkfclbaaGreatDoorBlockSoundP11
import Derived.Test.YtgkmfblmkfclbaaGreatDoorBlockSoundP22
import Derived.Test.YtgkmfblmkfclbaaGreatDoorBlockSoundP06
import Derived.Deep.DeepCutAuto
import Derived.Deep.QuietTactic
import Derived.Sort.Grow
namespace Go.Proofs.YtgkmfblmkfclbaaGreatDoor
open Go.RowKit Pl

/- nothing old has turned, and no draw was given back -/
structure GrewD (w w' : World) : Prop where
  grew : Grew w w'
  drawn : w.drawn ≤ w'.drawn
section
variable {a w w' : World}
theorem GrewD.refl (w : World) : GrewD w w := ⟨Grew.refl w, Nat.le_refl _⟩
theorem GrewD.trans (h : GrewD a w) (k : GrewD w w') : GrewD a w' := ⟨h.grew.trans k.grew, Nat.le_trans h.drawn k.drawn⟩
theorem GrewD.alloc (h : GrewD a w) (o : Obj) : GrewD a (w.alloc o) := ⟨Keeps.alloc h.grew o, h.drawn⟩
theorem GrewD.drewN (h : GrewD a w) (n : Nat) : GrewD a (w.drewN n) := ⟨Keeps.drewN h.grew n, Nat.le_trans h.drawn (Nat.le_add_right _ _)⟩
theorem GrewD.setCell (h : GrewD a w) {p : Addr} (hp : a.heap.size ≤ p.block) (u : Value) : GrewD a (w.setCell p u) := ⟨Keeps.setCell h.grew (.inr hp) u, h.drawn⟩
theorem GrewD.grow (h : GrewD w w') : ∃ q os, w' = Sort.grow (w.drewN q) os := by
  obtain ⟨⟨h1, h2, h3, h4, h5⟩, hd⟩ := h
  refine ⟨w'.drawn - w.drawn, w'.heap.extract w.heap.size w'.heap.size, ?_⟩
  cases w'
  cases w
  simp only at *
  subst h1 h2 h3
  unfold Sort.grow World.drewN
  simp only [World.mk.injEq]
  refine ⟨?_, trivial, by omega, trivial, trivial⟩
  rename_i hp' _ _ _ _ hp _
  apply Array.ext_getElem?
  intro i
  rcases Nat.lt_or_ge i hp.size with hi | hi
  · rw [Array.getElem?_append_left hi]; exact h5 i hi (fun e => e)
  · rw [Array.getElem?_append_right hi, Array.getElem?_extract]
    split
    · rw [show hp.size + (i - hp.size) = i by omega]
    · rename_i hc
      rw [Array.getElem?_eq_none]
      omega
end

def cmpI (a b : Int) : Int := if a < b then -1 else if b < a then 1 else 0
theorem cmpI_lt {a b : Int} (h : a < b) : cmpI a b = -1 := if_pos h
theorem cmpI_gt {a b : Int} (h : b < a) : cmpI a b = 1 := by unfold cmpI; rw [if_neg (by omega), if_pos h]
theorem cmpI_eq (a : Int) : cmpI a a = 0 := by unfold cmpI; rw [if_neg (by omega), if_neg (by omega)]
def cmpC (x y : Clm) : Int := if x.1 ≠ y.1 then cmpI x.1 y.1 else if x.2.1 ≠ y.2.1 then cmpI x.2.1 y.2.1 else if x.2.2.1 ≠ y.2.2.1 then cmpI x.2.2.1 y.2.2.1 else cmpI x.2.2.2 y.2.2.2

theorem ccmp_any (a b : Int) (w : World) : Calls Tryz.prog 99 #[.int .i64 a, .int .i64 b] w fun e w' => e = .returned (.int .i64 (cmpI a b)) ∧ w' = w := by
  have ta : (a != a) = false := by simp
  have tb : (b != b) = false := by simp
  rcases Int.lt_trichotomy a b with h | h | h
  · have HC := Lib.hid (cmpI_lt h)
    have t1 : decide (a < b) = true := by simpa using h
    clear h
    go_enter Tryz.func99, Tryz.ntmps99
    go_wp2
    go_ret
    exact ⟨by rw [HC.out]; rfl, rfl⟩
  · subst h
    have HC := Lib.hid (cmpI_eq a)
    have t1 : decide (a < a) = false := by simp
    go_enter Tryz.func99, Tryz.ntmps99
    go_wp2
    go_ret
    exact ⟨by rw [HC.out]; rfl, rfl⟩
  · have HC := Lib.hid (cmpI_gt h)
    have t1 : decide (a < b) = false := by simp; omega
    have t2 : decide (b < a) = true := by simpa using h
    clear h
    go_enter Tryz.func99, Tryz.ntmps99
    go_wp2
    go_ret
    exact ⟨by rw [HC.out]; rfl, rfl⟩
theorem ck1_any (g : Nat) (t : TypeId) (x : Clm) (w : World) (hb : Box w g t (cells4 x).toArray) : Calls Tryz.prog 95 #[.pointer (some ⟨g, 0, none⟩)] w fun e w' => e = .returned (.int .i64 x.1) ∧ w' = w := by
  obtain ⟨c0, c1, c2, c3⟩ := hb.four
  go_enter Tryz.func95, Tryz.ntmps95
  go_wp2
  go_ret
  exact ⟨rfl, rfl⟩
theorem ck2_any (g : Nat) (t : TypeId) (x : Clm) (w : World) (hb : Box w g t (cells4 x).toArray) : Calls Tryz.prog 96 #[.pointer (some ⟨g, 0, none⟩)] w fun e w' => e = .returned (.int .i64 x.2.1) ∧ w' = w := by
  obtain ⟨c0, c1, c2, c3⟩ := hb.four
  go_enter Tryz.func96, Tryz.ntmps96
  go_wp2
  go_ret
  exact ⟨rfl, rfl⟩
theorem ck3_any (g : Nat) (t : TypeId) (x : Clm) (w : World) (hb : Box w g t (cells4 x).toArray) : Calls Tryz.prog 97 #[.pointer (some ⟨g, 0, none⟩)] w fun e w' => e = .returned (.int .i64 x.2.2.1) ∧ w' = w := by
  obtain ⟨c0, c1, c2, c3⟩ := hb.four
  go_enter Tryz.func97, Tryz.ntmps97
  go_wp2
  go_ret
  exact ⟨rfl, rfl⟩
theorem ck4_any (g : Nat) (t : TypeId) (x : Clm) (w : World) (hb : Box w g t (cells4 x).toArray) : Calls Tryz.prog 98 #[.pointer (some ⟨g, 0, none⟩)] w fun e w' => e = .returned (.int .i64 x.2.2.2) ∧ w' = w := by
  obtain ⟨c0, c1, c2, c3⟩ := hb.four
  go_enter Tryz.func98, Tryz.ntmps98
  go_wp2
  go_ret
  exact ⟨rfl, rfl⟩
theorem quietE {P : Program} {f : FuncId} {args : Array Value} {w : World} {n : Nat} {v : Value}
    (h : Calls P f args (w.drewN n) fun e w' => e = .returned v ∧ w' = w.drewN n) : Calls P f args (w.drewN n) fun e w'' => e = .returned v ∧ ∃ m, w'' = w.drewN m :=
  h.mono fun _ _ ⟨he, hm⟩ => ⟨he, n, hm⟩

def ck4 : List Value := [.func (.func 95) #[] #[], .func (.func 96) #[] #[], .func (.func 97) #[] #[], .func (.func 98) #[] #[]]
theorem cmpC_0 {x y : Clm} (h : x.1 ≠ y.1) : cmpC x y = cmpI x.1 y.1 := if_pos h
theorem cmpC_1 {x y : Clm} (h0 : x.1 = y.1) (h : x.2.1 ≠ y.2.1) : cmpC x y = cmpI x.2.1 y.2.1 := by unfold cmpC; rw [if_neg (by simp [h0]), if_pos h]
theorem cmpC_2 {x y : Clm} (h0 : x.1 = y.1) (h1 : x.2.1 = y.2.1) (h : x.2.2.1 ≠ y.2.2.1) : cmpC x y = cmpI x.2.2.1 y.2.2.1 := by unfold cmpC; rw [if_neg (by simp [h0]), if_neg (by simp [h1]), if_pos h]
theorem cmpC_3 {x y : Clm} (h0 : x.1 = y.1) (h1 : x.2.1 = y.2.1) (h2 : x.2.2.1 = y.2.2.1) : cmpC x y = cmpI x.2.2.2 y.2.2.2 := by unfold cmpC; rw [if_neg (by simp [h0]), if_neg (by simp [h1]), if_neg (by simp [h2])]
theorem cmpI_ne {a b : Int} (h : a ≠ b) : cmpI a b ≠ 0 := by
  unfold cmpI
  split
  · omega
  · split <;> omega
/- the first j numbers are equal -/
def eqTo (x y : Clm) (j : Nat) : Prop := (1 ≤ j → x.1 = y.1) ∧ (2 ≤ j → x.2.1 = y.2.1) ∧ (3 ≤ j → x.2.2.1 = y.2.2.1) ∧ (4 ≤ j → x.2.2.2 = y.2.2.2)

set_option maxHeartbeats 6400000 in
set_option maxRecDepth 100000 in
theorem compare_any (x y : Clm) (w : World) : Calls Tryz.prog 78 #[vc x, vc y] w fun e w' => e = .returned (.int .i64 (cmpC x y)) ∧ GrewD w w' := by
  unfold vc
  have HB := Lib.hid (show ∀ w', Grew ((w.alloc (.cells (cells4 x).toArray 82)).alloc (.cells (cells4 y).toArray 82)) w' → Box w' w.heap.size 82 (cells4 x).toArray ∧ Box w' (w.heap.size + 1) 82 (cells4 y).toArray from fun w' g => by
    have h1 := ((Box.new w 82 (cells4 x).toArray).alloc (.cells (cells4 y).toArray 82)).grew g
    have h2 := (Box.new (w.alloc (.cells (cells4 x).toArray 82)) 82 (cells4 y).toArray).grew g
    rw [World.size_alloc] at h2
    exact ⟨h1, h2⟩)
  have hg2 : GrewD w ((w.alloc (.cells (cells4 x).toArray 82)).alloc (.cells (cells4 y).toArray 82)) := ((GrewD.refl w).alloc _).alloc _
  have hsz : ((w.alloc (.cells (cells4 x).toArray 82)).alloc (.cells (cells4 y).toArray 82)).heap.size = w.heap.size + 1 + 1 := by simp
  go_enter Tryz.func78, Tryz.ntmps78
  go_upto_region 1 with fail
  generalize (w.alloc (.cells (cells4 x).toArray 82)).alloc (.cells (cells4 y).toArray 82) = w2 at *
  have HG2 := Lib.hid hg2
  have HSZ := Lib.hid hsz
  clear hg2 hsz
  go_wp2_with (first | (refine stN 156 (.tmp 5) (.tmp 13) w2.heap.size ck4 [.nilFunc, .nilFunc, .nilFunc, .nilFunc] 156 (by kernel_rfl) rfl (by intro v hv; simp [ck4] at hv; rcases hv with rfl | rfl | rfl | rfl <;> rfl) rfl rfl rfl rfl (Box.new w2 156 [.nilFunc, .nilFunc, .nilFunc, .nilFunc].toArray) ?_; intro w3 bx3 k3 d3) | (refine ldN 156 Tryz.underlying156 rfl (.tmp 5) w2.heap.size ck4 156 (by kernel_rfl) rfl rfl rfl bx3 ?_))
  have g3 : Grew w2 w3 := Keeps.then_ ((Grew.refl w2).alloc _) k3 (fun i hi e => by omega)
  have gd3 : GrewD w w3 := HG2.out.trans ⟨g3, Nat.le_of_eq d3.symm⟩
  clear k3 d3 bx3
  unfold ck4
  go_loopw [15] (fun i wr => ∃ (j : Nat), j ≤ 4 ∧ i = .int .i64 j ∧ eqTo x y j ∧ GrewD w wr ∧ Grew w2 wr) (fun i _ => 4 - (intOf i).toNat)
  case atStart => exact ⟨0, by omega, rfl, ⟨fun h => by omega, fun h => by omega, fun h => by omega, fun h => by omega⟩, gd3, g3⟩
  case round =>
    obtain ⟨j, hj, rfl, hE, hD, hG⟩ := hrel
    clear gd3 g3 w3
    by_cases hlt : j < 4
    · have hc : j = 0 ∨ j = 1 ∨ j = 2 ∨ j = 3 := by omega
      clear hlt hj
      rcases hc with rfl | rfl | rfl | rfl
      · obtain ⟨hbx, hby⟩ := HB.out wr hG
        have hEq : x.1 ≠ y.1 → cmpC x y = cmpI x.1 y.1 := fun h => cmpC_0 (x := x) (y := y)  h
        have ix : ∀ w : World, Sem.run Tryz.prog (Instr.index 156 (.agg #[.func (.func 95) #[] #[], .func (.func 96) #[] #[], .func (.func 97) #[] #[], .func (.func 98) #[] #[]]) (.int .i64 ((0 : Nat) : Int))) w = .ok (.agg #[.func (.func 95) #[] #[]]) w := fun w => by kernel_rfl
        have ix' : ∀ w : World, Sem.run Tryz.prog (Instr.index 156 (.agg #[.func (.func 95) #[] #[], .func (.func 96) #[] #[], .func (.func 97) #[] #[], .func (.func 98) #[] #[]]) (.int .i64 0)) w = .ok (.agg #[.func (.func 95) #[] #[]]) w := fun w => by kernel_rfl
        by_cases hne : x.1 = y.1
        · have HEn := Lib.hid (show eqTo x y 1 from ⟨fun _ => hne, fun h => by omega, fun h => by omega, fun h => by omega⟩)
          have HZ := Lib.hid (show cmpI x.1 y.1 = 0 by rw [hne]; exact cmpI_eq _)
          clear hne hEq hE
          go_upto_region 5 with (first | (refine stN 155 (.tmp 7) (.tmp 17) wr.heap.size [.func (.func 95) #[] #[]] [.nilFunc] 155 (by kernel_rfl) rfl (by intro v hv; simp at hv; subst hv; rfl) rfl rfl rfl rfl (Box.new wr 155 [.nilFunc].toArray) ?_; intro w4 bx4 k4 d4))
          have g4 : GrewD wr w4 := ⟨Keeps.then_ ((Grew.refl wr).alloc _) k4 (fun i hi e => by omega), Nat.le_of_eq d4.symm⟩
          have cf : w4.cell? ⟨wr.heap.size, 0, none⟩ = some (.func (.func 95) #[] #[]) := bx4.cell 0
          have hbx4 := hbx.grew g4.grew
          have hby4 := hby.grew g4.grew
          clear k4 d4 bx4 hbx hby
          go_quiet (first | (go_at_call 95; exact quietE (ck1_any w.heap.size _ x _ (hbx4.drewN _))) | (go_at_call 95; exact quietE (ck1_any (w.heap.size + 1) _ y _ (hby4.drewN _))) | (go_at_call 99; exact quietE (ccmp_any _ _ _)))
          rw [HZ.out]
          have g5 := (hD.trans g4).drewN nq
          have g6 := hG.trans (g4.drewN nq).grew
          generalize w4.drewN nq = w5 at *
          go_wp2_with fail
          go_roundw
          case rel => exact ⟨1, by omega, by go_num, HEn.out, g5, g6⟩
          case measure => simp [intOf]
        · have HEq := Lib.hid (hEq hne)
          have HNz := Lib.hid (cmpI_ne hne)
          clear hne hEq hE
          go_upto_region 5 with (first | (refine stN 155 (.tmp 7) (.tmp 17) wr.heap.size [.func (.func 95) #[] #[]] [.nilFunc] 155 (by kernel_rfl) rfl (by intro v hv; simp at hv; subst hv; rfl) rfl rfl rfl rfl (Box.new wr 155 [.nilFunc].toArray) ?_; intro w4 bx4 k4 d4))
          have g4 : GrewD wr w4 := ⟨Keeps.then_ ((Grew.refl wr).alloc _) k4 (fun i hi e => by omega), Nat.le_of_eq d4.symm⟩
          have cf : w4.cell? ⟨wr.heap.size, 0, none⟩ = some (.func (.func 95) #[] #[]) := bx4.cell 0
          have hbx4 := hbx.grew g4.grew
          have hby4 := hby.grew g4.grew
          clear k4 d4 bx4 hbx hby
          go_quiet (first | (go_at_call 95; exact quietE (ck1_any w.heap.size _ x _ (hbx4.drewN _))) | (go_at_call 95; exact quietE (ck1_any (w.heap.size + 1) _ y _ (hby4.drewN _))) | (go_at_call 99; exact quietE (ccmp_any _ _ _)))
          generalize cmpI x.1 y.1 = r at *
          have tr : (r != 0) = true := by rw [bne_iff_ne]; exact HNz.out
          go_wp2_with fail
          go_ret
          exact ⟨by rw [HEq.out]; rfl, (hD.trans g4).drewN _⟩
      · obtain ⟨hbx, hby⟩ := HB.out wr hG
        have hEq : x.2.1 ≠ y.2.1 → cmpC x y = cmpI x.2.1 y.2.1 := fun h => cmpC_1 (x := x) (y := y) (hE.1 (by omega)) h
        have ix : ∀ w : World, Sem.run Tryz.prog (Instr.index 156 (.agg #[.func (.func 95) #[] #[], .func (.func 96) #[] #[], .func (.func 97) #[] #[], .func (.func 98) #[] #[]]) (.int .i64 ((1 : Nat) : Int))) w = .ok (.agg #[.func (.func 96) #[] #[]]) w := fun w => by kernel_rfl
        have ix' : ∀ w : World, Sem.run Tryz.prog (Instr.index 156 (.agg #[.func (.func 95) #[] #[], .func (.func 96) #[] #[], .func (.func 97) #[] #[], .func (.func 98) #[] #[]]) (.int .i64 1)) w = .ok (.agg #[.func (.func 96) #[] #[]]) w := fun w => by kernel_rfl
        by_cases hne : x.2.1 = y.2.1
        · have HEn := Lib.hid (show eqTo x y 2 from ⟨fun _ => hE.1 (by omega), fun _ => hne, fun h => by omega, fun h => by omega⟩)
          have HZ := Lib.hid (show cmpI x.2.1 y.2.1 = 0 by rw [hne]; exact cmpI_eq _)
          clear hne hEq hE
          go_upto_region 5 with (first | (refine stN 155 (.tmp 7) (.tmp 17) wr.heap.size [.func (.func 96) #[] #[]] [.nilFunc] 155 (by kernel_rfl) rfl (by intro v hv; simp at hv; subst hv; rfl) rfl rfl rfl rfl (Box.new wr 155 [.nilFunc].toArray) ?_; intro w4 bx4 k4 d4))
          have g4 : GrewD wr w4 := ⟨Keeps.then_ ((Grew.refl wr).alloc _) k4 (fun i hi e => by omega), Nat.le_of_eq d4.symm⟩
          have cf : w4.cell? ⟨wr.heap.size, 0, none⟩ = some (.func (.func 96) #[] #[]) := bx4.cell 0
          have hbx4 := hbx.grew g4.grew
          have hby4 := hby.grew g4.grew
          clear k4 d4 bx4 hbx hby
          go_quiet (first | (go_at_call 96; exact quietE (ck2_any w.heap.size _ x _ (hbx4.drewN _))) | (go_at_call 96; exact quietE (ck2_any (w.heap.size + 1) _ y _ (hby4.drewN _))) | (go_at_call 99; exact quietE (ccmp_any _ _ _)))
          rw [HZ.out]
          have g5 := (hD.trans g4).drewN nq
          have g6 := hG.trans (g4.drewN nq).grew
          generalize w4.drewN nq = w5 at *
          go_wp2_with fail
          go_roundw
          case rel => exact ⟨2, by omega, by go_num, HEn.out, g5, g6⟩
          case measure => simp [intOf]
        · have HEq := Lib.hid (hEq hne)
          have HNz := Lib.hid (cmpI_ne hne)
          clear hne hEq hE
          go_upto_region 5 with (first | (refine stN 155 (.tmp 7) (.tmp 17) wr.heap.size [.func (.func 96) #[] #[]] [.nilFunc] 155 (by kernel_rfl) rfl (by intro v hv; simp at hv; subst hv; rfl) rfl rfl rfl rfl (Box.new wr 155 [.nilFunc].toArray) ?_; intro w4 bx4 k4 d4))
          have g4 : GrewD wr w4 := ⟨Keeps.then_ ((Grew.refl wr).alloc _) k4 (fun i hi e => by omega), Nat.le_of_eq d4.symm⟩
          have cf : w4.cell? ⟨wr.heap.size, 0, none⟩ = some (.func (.func 96) #[] #[]) := bx4.cell 0
          have hbx4 := hbx.grew g4.grew
          have hby4 := hby.grew g4.grew
          clear k4 d4 bx4 hbx hby
          go_quiet (first | (go_at_call 96; exact quietE (ck2_any w.heap.size _ x _ (hbx4.drewN _))) | (go_at_call 96; exact quietE (ck2_any (w.heap.size + 1) _ y _ (hby4.drewN _))) | (go_at_call 99; exact quietE (ccmp_any _ _ _)))
          generalize cmpI x.2.1 y.2.1 = r at *
          have tr : (r != 0) = true := by rw [bne_iff_ne]; exact HNz.out
          go_wp2_with fail
          go_ret
          exact ⟨by rw [HEq.out]; rfl, (hD.trans g4).drewN _⟩
      · obtain ⟨hbx, hby⟩ := HB.out wr hG
        have hEq : x.2.2.1 ≠ y.2.2.1 → cmpC x y = cmpI x.2.2.1 y.2.2.1 := fun h => cmpC_2 (x := x) (y := y) (hE.1 (by omega)) (hE.2.1 (by omega)) h
        have ix : ∀ w : World, Sem.run Tryz.prog (Instr.index 156 (.agg #[.func (.func 95) #[] #[], .func (.func 96) #[] #[], .func (.func 97) #[] #[], .func (.func 98) #[] #[]]) (.int .i64 ((2 : Nat) : Int))) w = .ok (.agg #[.func (.func 97) #[] #[]]) w := fun w => by kernel_rfl
        have ix' : ∀ w : World, Sem.run Tryz.prog (Instr.index 156 (.agg #[.func (.func 95) #[] #[], .func (.func 96) #[] #[], .func (.func 97) #[] #[], .func (.func 98) #[] #[]]) (.int .i64 2)) w = .ok (.agg #[.func (.func 97) #[] #[]]) w := fun w => by kernel_rfl
        by_cases hne : x.2.2.1 = y.2.2.1
        · have HEn := Lib.hid (show eqTo x y 3 from ⟨fun _ => hE.1 (by omega), fun _ => hE.2.1 (by omega), fun _ => hne, fun h => by omega⟩)
          have HZ := Lib.hid (show cmpI x.2.2.1 y.2.2.1 = 0 by rw [hne]; exact cmpI_eq _)
          clear hne hEq hE
          go_upto_region 5 with (first | (refine stN 155 (.tmp 7) (.tmp 17) wr.heap.size [.func (.func 97) #[] #[]] [.nilFunc] 155 (by kernel_rfl) rfl (by intro v hv; simp at hv; subst hv; rfl) rfl rfl rfl rfl (Box.new wr 155 [.nilFunc].toArray) ?_; intro w4 bx4 k4 d4))
          have g4 : GrewD wr w4 := ⟨Keeps.then_ ((Grew.refl wr).alloc _) k4 (fun i hi e => by omega), Nat.le_of_eq d4.symm⟩
          have cf : w4.cell? ⟨wr.heap.size, 0, none⟩ = some (.func (.func 97) #[] #[]) := bx4.cell 0
          have hbx4 := hbx.grew g4.grew
          have hby4 := hby.grew g4.grew
          clear k4 d4 bx4 hbx hby
          go_quiet (first | (go_at_call 97; exact quietE (ck3_any w.heap.size _ x _ (hbx4.drewN _))) | (go_at_call 97; exact quietE (ck3_any (w.heap.size + 1) _ y _ (hby4.drewN _))) | (go_at_call 99; exact quietE (ccmp_any _ _ _)))
          rw [HZ.out]
          have g5 := (hD.trans g4).drewN nq
          have g6 := hG.trans (g4.drewN nq).grew
          generalize w4.drewN nq = w5 at *
          go_wp2_with fail
          go_roundw
          case rel => exact ⟨3, by omega, by go_num, HEn.out, g5, g6⟩
          case measure => simp [intOf]
        · have HEq := Lib.hid (hEq hne)
          have HNz := Lib.hid (cmpI_ne hne)
          clear hne hEq hE
          go_upto_region 5 with (first | (refine stN 155 (.tmp 7) (.tmp 17) wr.heap.size [.func (.func 97) #[] #[]] [.nilFunc] 155 (by kernel_rfl) rfl (by intro v hv; simp at hv; subst hv; rfl) rfl rfl rfl rfl (Box.new wr 155 [.nilFunc].toArray) ?_; intro w4 bx4 k4 d4))
          have g4 : GrewD wr w4 := ⟨Keeps.then_ ((Grew.refl wr).alloc _) k4 (fun i hi e => by omega), Nat.le_of_eq d4.symm⟩
          have cf : w4.cell? ⟨wr.heap.size, 0, none⟩ = some (.func (.func 97) #[] #[]) := bx4.cell 0
          have hbx4 := hbx.grew g4.grew
          have hby4 := hby.grew g4.grew
          clear k4 d4 bx4 hbx hby
          go_quiet (first | (go_at_call 97; exact quietE (ck3_any w.heap.size _ x _ (hbx4.drewN _))) | (go_at_call 97; exact quietE (ck3_any (w.heap.size + 1) _ y _ (hby4.drewN _))) | (go_at_call 99; exact quietE (ccmp_any _ _ _)))
          generalize cmpI x.2.2.1 y.2.2.1 = r at *
          have tr : (r != 0) = true := by rw [bne_iff_ne]; exact HNz.out
          go_wp2_with fail
          go_ret
          exact ⟨by rw [HEq.out]; rfl, (hD.trans g4).drewN _⟩
      · obtain ⟨hbx, hby⟩ := HB.out wr hG
        have hEq : x.2.2.2 ≠ y.2.2.2 → cmpC x y = cmpI x.2.2.2 y.2.2.2 := fun _ => cmpC_3 (x := x) (y := y) (hE.1 (by omega)) (hE.2.1 (by omega)) (hE.2.2.1 (by omega))
        have ix : ∀ w : World, Sem.run Tryz.prog (Instr.index 156 (.agg #[.func (.func 95) #[] #[], .func (.func 96) #[] #[], .func (.func 97) #[] #[], .func (.func 98) #[] #[]]) (.int .i64 ((3 : Nat) : Int))) w = .ok (.agg #[.func (.func 98) #[] #[]]) w := fun w => by kernel_rfl
        have ix' : ∀ w : World, Sem.run Tryz.prog (Instr.index 156 (.agg #[.func (.func 95) #[] #[], .func (.func 96) #[] #[], .func (.func 97) #[] #[], .func (.func 98) #[] #[]]) (.int .i64 3)) w = .ok (.agg #[.func (.func 98) #[] #[]]) w := fun w => by kernel_rfl
        by_cases hne : x.2.2.2 = y.2.2.2
        · have HEn := Lib.hid (show eqTo x y 4 from ⟨fun _ => hE.1 (by omega), fun _ => hE.2.1 (by omega), fun _ => hE.2.2.1 (by omega), fun _ => hne⟩)
          have HZ := Lib.hid (show cmpI x.2.2.2 y.2.2.2 = 0 by rw [hne]; exact cmpI_eq _)
          clear hne hEq hE
          go_upto_region 5 with (first | (refine stN 155 (.tmp 7) (.tmp 17) wr.heap.size [.func (.func 98) #[] #[]] [.nilFunc] 155 (by kernel_rfl) rfl (by intro v hv; simp at hv; subst hv; rfl) rfl rfl rfl rfl (Box.new wr 155 [.nilFunc].toArray) ?_; intro w4 bx4 k4 d4))
          have g4 : GrewD wr w4 := ⟨Keeps.then_ ((Grew.refl wr).alloc _) k4 (fun i hi e => by omega), Nat.le_of_eq d4.symm⟩
          have cf : w4.cell? ⟨wr.heap.size, 0, none⟩ = some (.func (.func 98) #[] #[]) := bx4.cell 0
          have hbx4 := hbx.grew g4.grew
          have hby4 := hby.grew g4.grew
          clear k4 d4 bx4 hbx hby
          go_quiet (first | (go_at_call 98; exact quietE (ck4_any w.heap.size _ x _ (hbx4.drewN _))) | (go_at_call 98; exact quietE (ck4_any (w.heap.size + 1) _ y _ (hby4.drewN _))) | (go_at_call 99; exact quietE (ccmp_any _ _ _)))
          rw [HZ.out]
          have g5 := (hD.trans g4).drewN nq
          have g6 := hG.trans (g4.drewN nq).grew
          generalize w4.drewN nq = w5 at *
          go_wp2_with fail
          go_roundw
          case rel => exact ⟨4, by omega, by go_num, HEn.out, g5, g6⟩
          case measure => simp [intOf]
        · have HEq := Lib.hid (hEq hne)
          have HNz := Lib.hid (cmpI_ne hne)
          clear hne hEq hE
          go_upto_region 5 with (first | (refine stN 155 (.tmp 7) (.tmp 17) wr.heap.size [.func (.func 98) #[] #[]] [.nilFunc] 155 (by kernel_rfl) rfl (by intro v hv; simp at hv; subst hv; rfl) rfl rfl rfl rfl (Box.new wr 155 [.nilFunc].toArray) ?_; intro w4 bx4 k4 d4))
          have g4 : GrewD wr w4 := ⟨Keeps.then_ ((Grew.refl wr).alloc _) k4 (fun i hi e => by omega), Nat.le_of_eq d4.symm⟩
          have cf : w4.cell? ⟨wr.heap.size, 0, none⟩ = some (.func (.func 98) #[] #[]) := bx4.cell 0
          have hbx4 := hbx.grew g4.grew
          have hby4 := hby.grew g4.grew
          clear k4 d4 bx4 hbx hby
          go_quiet (first | (go_at_call 98; exact quietE (ck4_any w.heap.size _ x _ (hbx4.drewN _))) | (go_at_call 98; exact quietE (ck4_any (w.heap.size + 1) _ y _ (hby4.drewN _))) | (go_at_call 99; exact quietE (ccmp_any _ _ _)))
          generalize cmpI x.2.2.2 y.2.2.2 = r at *
          have tr : (r != 0) = true := by rw [bne_iff_ne]; exact HNz.out
          go_wp2_with fail
          go_ret
          exact ⟨by rw [HEq.out]; rfl, (hD.trans g4).drewN _⟩
    · obtain rfl : j = 4 := by omega
      have HEq := Lib.hid (show cmpC x y = 0 by rw [cmpC_3 (hE.1 (by omega)) (hE.2.1 (by omega)) (hE.2.2.1 (by omega)), hE.2.2.2 (by omega)]; exact cmpI_eq _)
      clear hE
      go_wp2_with fail
      go_ret
      exact ⟨by rw [HEq.out]; rfl, hD⟩
end Go.Proofs.YtgkmfblmkfclbaaGreatDoor
