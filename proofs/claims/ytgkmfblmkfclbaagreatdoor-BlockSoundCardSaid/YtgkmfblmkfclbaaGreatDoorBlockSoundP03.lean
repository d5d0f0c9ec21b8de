/- The writer of bits: one bit more. bits.positions: its iterator hands out the positions count-1 .. 0. -/
import Derived.Test.YtgkmfblmkfclbaaGreatDoorProg
import Derived.Test.YtgkmfblmkfclbaaGreatDoorBlockSoundP01
import Derived.Test.YtgkmfblmkfclbaaGreatDoorBlockSoundP02
import Derived.BigRegion
import Derived.RangeFuncNested
import Derived.RangeFuncBound
import Derived.RangeFuncCalls
import Derived.RangeFuncLeaves
import Derived.Shelf.Abstract
import Derived.Shelf.RegionOpen
import Derived.WalkKit
import Derived.OwnWalkIn
import Derived.TacticsInMore
import Derived.LoopNIn
import Derived.LoopIn
namespace Go.Proofs.YtgkmfblmkfclbaaGreatDoor
open Go.RowKit Pl

def vb (x : Nat) : Value := .int .u8 x
/- the writer in block g: its stream is s, v its bytes -/
def BW (w : World) (base g : Nat) (v : Value) (s : List Bool) : Prop :=
  Box w g 113 #[v, .int .i64 (s.length : Nat)] ∧ Mine w base 5 v ((pack s).map vb)

theorem slU8 : SlT Tryz.prog 42 5 1 (.int .u8 0) := ⟨Tryz.underlying42, by kernel_rfl, rfl, by decide⟩

/- a row's block is the old one or a new one -/
def Moved (w : World) (v v' : Value) : Prop := ∀ k, v'.ownBlock = some k → v.ownBlock = some k ∨ w.heap.size ≤ k
theorem Moved.refl (w : World) (v : Value) : Moved w v v := fun _ h => .inl h
theorem Moved.trans {w w1 : World} {v v1 v2 : Value} (h : Moved w v v1) (hw : w.heap.size ≤ w1.heap.size) (k : Moved w1 v1 v2) : Moved w v v2 := fun i hi => by
  rcases k i hi with k | k
  · exact h i k
  · exact .inr (by omega)
/- what a call of the writer keeps -/
def KeepsW (g : Nat) (v : Value) (w w' : World) : Prop := Keeps (fun i => i = g ∨ v.ownBlock = some i) w w'
theorem KeepsW.trans {w w1 w2 : World} {g : Nat} {v v1 : Value} (h : KeepsW g v w w1) (hm : Moved w v v1) (k : KeepsW g v1 w1 w2) : KeepsW g v w w2 :=
  Keeps.then_ h k fun i hi e => by
    rcases e with e | e
    · exact .inl e
    · rcases hm i e with e | e
      · exact .inr e
      · omega

theorem bw_end {w w1 : World} {base g : Nat} {s : List Bool} {b : Bool} {v v1 : Value} (hbox : Box w1 g 113 #[v1, .int .i64 (s.length : Nat)])
    (hown : Mine w1 base 5 v1 ((pack (s ++ [b])).map vb)) (hk : KeepsW g v w w1) : BW (w1.setCell ⟨g, 1, none⟩ (.int .i64 ((s.length : Int) + 1))) base g v1 (s ++ [b]) ∧
      KeepsW g v w (w1.setCell ⟨g, 1, none⟩ (.int .i64 ((s.length : Int) + 1))) := by
  refine ⟨⟨?_, ?_⟩, hk.setCell (.inl (.inl rfl)) _⟩
  · have := hbox.set_ 1 (.int .i64 ((s.length : Int) + 1))
    simpa using this
  · exact hown.far (fun e => hown.ne_box e hbox (by decide) rfl) _

set_option maxHeartbeats 800000 in
set_option maxRecDepth 100000 in
theorem bit_new (g base : Nat) (v : Value) (s : List Bool) (b : Bool) (w : World) (h : BW w base g v s) (hs : s.length < 1099511627776) (h8 : s.length % 8 = 0) (hb : base ≤ w.heap.size) :
    Calls Tryz.prog 100 #[.pointer (some ⟨g, 0, none⟩), .bool b] w fun e w' => e = .returned (.tuple #[]) ∧
      ∃ v', BW w' base g v' (s ++ [b]) ∧ KeepsW g v w w' ∧ Moved w v v' := by
  obtain ⟨hbox, hown⟩ := h
  have c0 := hbox.cell 0
  have c1 := hbox.cell 1
  have f0 := hbox.frozen 0
  have f1 := hbox.frozen 1
  have hlt := hbox.lt
  have hpl := pack_length s
  obtain ⟨A, n, cap, rfl⟩ : ∃ A n cap, v = .slice A n cap := by
    rcases hown.form with ⟨rfl, _⟩ | ⟨g, cap, cur, rfl, _⟩
    · exact ⟨_, _, _, rfl⟩
    · exact ⟨_, _, _, rfl⟩
  simp only [List.getElem?_toArray, List.getElem?_cons_zero, List.getElem?_cons_succ] at c0 c1
  have t8 : ((s.length : Int) % 8 == 0) = true := by rw [beq_iff_eq]; omega
  have hN := Lib.hid hpl
  clear hpl
  cases b
  · go_enter Tryz.func100, Tryz.ntmps100
    go_wp2_with (at_builtin; refine app_one slU8 rfl (.tmp 14) (.tmp 15) rfl rfl (hown.alloc _) w.heap.size 1 (.int .u8 0) rfl (Nat.le_refl _) (by simp) (by simp) rfl ?b1 ?b2 ?k)
    case b1 => simp [hN.out]; omega
    case b2 => simp; omega
    case k =>
    intro r cap' w1 hown1 hk1 hr1 hbr hlr
    have hg1 : ¬ (Value.slice A n cap).ownBlock = some g := fun e => hown.ne_box e hbox (by decide) rfl
    have hbox1 := (hbox.alloc _).keep hk1 hg1
    have hne : r ≠ g := hown1.ne_box rfl hbox1 (by decide)
    have k0 := hbox1.cell 0
    have k1 := hbox1.cell 1
    have e0 := hbox1.frozen 0
    have e1 := hbox1.frozen 1
    simp only [List.getElem?_toArray, List.getElem?_cons_zero, List.getElem?_cons_succ] at k0 k1
    clear c0 c1 f0 f1
    go_wp2
    go_end0
    have hE := bw_end (b := false) (hbox1.set_ 0 (.slice (some ⟨r, 0, none⟩) ((pack s).length + 1) cap')) ((by rw [pack_snoc_new s false h8]; simpa [vb, bitv] using hown1.far (by simp [Value.ownBlock]; exact hne) _))
      ((((Keeps.refl _ w).alloc _).then_ hk1 (fun i _ e => .inr e)).setCell (.inl (.inl rfl)) _)
    refine ⟨rfl, _, hE.1, hE.2, fun k hk => ?_⟩
    have : r = k := by simpa [Value.ownBlock] using hk
    subst this
    rcases hr1 with e | e
    · exact .inl e.symm
    · exact .inr (by omega)
  · go_enter Tryz.func100, Tryz.ntmps100
    go_wp2_with (at_builtin; refine app_one slU8 rfl (.tmp 14) (.tmp 15) rfl rfl (hown.alloc _) w.heap.size 1 (.int .u8 0) rfl (Nat.le_refl _) (by simp) (by simp) rfl ?b1 ?b2 ?k)
    case b1 => simp [hN.out]; omega
    case b2 => simp; omega
    case k =>
    intro r cap' w1 hown1 hk1 hr1 hbr hlr
    have hg1 : ¬ (Value.slice A n cap).ownBlock = some g := fun e => hown.ne_box e hbox (by decide) rfl
    have hbox1 := (hbox.alloc _).keep hk1 hg1
    have hne : r ≠ g := hown1.ne_box rfl hbox1 (by decide)
    have k0 := hbox1.cell 0
    have k1 := hbox1.cell 1
    have e0 := hbox1.frozen 0
    have e1 := hbox1.frozen 1
    simp only [List.getElem?_toArray, List.getElem?_cons_zero, List.getElem?_cons_succ] at k0 k1
    clear c0 c1 f0 f1
    go_wp2
    have hbox2 := hbox1.set_ 0 (.slice (some ⟨r, 0, none⟩) ((pack s).length + 1) cap')
    have hown2 := hown1.far (p := ⟨g, 0, none⟩) (by simp [Value.ownBlock]; exact hne) (.slice (some ⟨r, 0, none⟩) ((pack s).length + 1) cap')
    have hk2 : KeepsW g (.slice A n cap) w (w1.setCell ⟨g, 0, none⟩ (.slice (some ⟨r, 0, none⟩) ((pack s).length + 1) cap')) := ((((Keeps.refl _ w).alloc _).then_ hk1 (fun i _ e => .inr e)).setCell (.inl (.inl rfl)) _)
    generalize w1.setCell ⟨g, 0, none⟩ (.slice (some ⟨r, 0, none⟩) ((pack s).length + 1) cap') = W2 at *
    have hrl : (pack s).length < 1099511627776 := by rw [hN.out]; omega
    have hcl : W2.cell? ⟨r, (pack s).length, none⟩ = some (.int .u8 0) := by
      rcases hown2.form with ⟨h, _⟩ | ⟨g', cap2, cur, hv, _, hb2, _, _, _, h4⟩
      · cases h
      · injection hv with hv _ _
        injection hv with hv
        injection hv with hv _ _
        subst hv
        rw [hb2.cell, ← Array.getElem?_toList]
        have : (cur.toList.take ((pack s).map vb ++ [Value.int .u8 0]).length)[(pack s).length]? = some (.int .u8 0) := by rw [h4]; simp
        rw [List.getElem?_take] at this
        split at this
        · exact this
        · cases this
    have hfl : W2.frozen? ⟨r, (pack s).length, none⟩ = false := by
      rcases hown2.form with ⟨h, _⟩ | ⟨g', cap2, cur, hv, _, hb2, _⟩
      · cases h
      · injection hv with hv _ _
        injection hv with hv
        injection hv with hv _ _
        subst hv
        exact hb2.frozen _
    have k0 := hbox2.cell 0
    have k1 := hbox2.cell 1
    have e0 := hbox2.frozen 0
    have e1 := hbox2.frozen 1
    simp only [Array.getElem?_setIfInBounds, List.getElem?_toArray, List.getElem?_cons_zero, List.getElem?_cons_succ, List.size_toArray, List.length_cons, List.length_nil, Nat.reduceAdd, if_true, if_false, Nat.zero_lt_succ, Nat.zero_ne_one] at k0 k1
    clear hk1 hbox1 hown1
    go_region
    go_wp2
    go_end0
    have hor : bits BinOp.or IntKind.u8 0 128 = 128 := by kernel_rfl
    rw [hor]
    have hown3 := hown2.store (g := r) rfl (i := (pack s).length) (by simp) (.int .u8 128)
    have hl : ((pack s).map vb ++ [Value.int .u8 0]).set (pack s).length (.int .u8 128) = (pack (s ++ [true])).map vb := by
      rw [pack_snoc_new s true h8, List.set_append_right _ _ (by simp)]
      simp [vb, bitv]
    rw [hl] at hown3
    have hE := bw_end (b := true) (hbox2.far (p := ⟨r, (pack s).length, none⟩) (fun e => hne e.symm) (.int .u8 128)) hown3 (hk2.setCell (p := ⟨r, (pack s).length, none⟩) (by
      rcases hr1 with e | e
      · exact .inl (.inr e.symm)
      · exact .inr (by show w.heap.size ≤ r; omega)) _)
    refine ⟨rfl, _, hE.1, hE.2.drew, fun k hk => ?_⟩
    have : r = k := by simpa [Value.ownBlock] using hk
    subst this
    rcases hr1 with e | e
    · exact .inl e.symm
    · exact .inr (by omega)

set_option maxHeartbeats 800000 in
set_option maxRecDepth 100000 in
theorem bit_old (g base : Nat) (v : Value) (s : List Bool) (b : Bool) (w : World) (h : BW w base g v s) (hs : s.length < 1099511627776) (h8 : s.length % 8 ≠ 0) :
    Calls Tryz.prog 100 #[.pointer (some ⟨g, 0, none⟩), .bool b] w fun e w' => e = .returned (.tuple #[]) ∧
      ∃ v', BW w' base g v' (s ++ [b]) ∧ KeepsW g v w w' ∧ Moved w v v' := by
  obtain ⟨hbox, hown⟩ := h
  have c0 := hbox.cell 0
  have c1 := hbox.cell 1
  have f0 := hbox.frozen 0
  have f1 := hbox.frozen 1
  have hlt := hbox.lt
  have hpl := pack_length s
  rcases hown.form with ⟨rfl, hnil⟩ | ⟨r, cap, cur, rfl, hbr, hbr2, hcap1, hcap2, hcap3, hcur⟩
  · have : ((pack s).map vb).length = 0 := by rw [hnil]; rfl
    rw [List.length_map, hpl] at this
    omega
  rw [List.length_map] at *
  have hne : r ≠ g := hown.ne_box rfl hbox (by decide)
  obtain ⟨m, hm⟩ : ∃ m, (pack s).length = m + 1 := ⟨(pack s).length - 1, by omega⟩
  have hmm : m = s.length / 8 := by omega
  have hcl : w.cell? ⟨r, m, none⟩ = some (.int .u8 (byteAt s m : Nat)) := by
    rw [hbr2.cell, ← Array.getElem?_toList]
    have : (cur.toList.take (pack s).length)[m]? = some (.int .u8 (byteAt s m : Nat)) := by
      rw [hcur, List.getElem?_map, pack_getElem? s m (by omega)]; rfl
    rw [List.getElem?_take, if_pos (by omega)] at this
    exact this
  have hfl := hbr2.frozen m
  simp only [List.getElem?_toArray, List.getElem?_cons_zero, List.getElem?_cons_succ] at c0 c1
  rw [hm] at c0
  have t8 : ((s.length : Int) % 8 == 0) = false := by rw [beq_eq_false_iff_ne]; omega
  have hbx := byteAt_lt s m
  have hml : m < 1099511627776 := by omega
  have HN := Lib.hid hpl
  have HM := Lib.hid hm
  have HMM := Lib.hid hmm
  clear hpl hm hmm hcur
  cases b
  · go_enter Tryz.func100, Tryz.ntmps100
    go_wp2
    go_end0
    have hl : (pack s).map vb = (pack (s ++ [false])).map vb := by
      rw [pack_snoc_old s false h8]
      have : (pack s).set (s.length / 8) (byteAt s (s.length / 8) + bitv false (7 - s.length % 8)) = pack s := by
        apply List.ext_getElem?
        intro j
        rw [List.getElem?_set]
        split
        · rename_i e
          subst e
          rw [if_pos (by rw [HN.out]; omega), pack_getElem? _ _ (by omega)]; simp [bitv]
        · rfl
      rw [this]
    rw [hl] at hown
    have hE := bw_end (b := false) (v := .slice (some ⟨r, 0, none⟩) (pack s).length cap) hbox hown (Keeps.refl _ _)
    exact ⟨rfl, _, hE.1, hE.2, Moved.refl _ _⟩
  · go_enter Tryz.func100, Tryz.ntmps100
    go_wp2
    go_region
    go_wp2
    go_end0
    have hsh : (128 / 2 ^ (s.length % 8) : Int) = ((2 ^ (7 - s.length % 8) : Nat) : Int) := by
      have hm8 : s.length % 8 < 8 := by omega
      generalize s.length % 8 = q at *
      have : q = 0 ∨ q = 1 ∨ q = 2 ∨ q = 3 ∨ q = 4 ∨ q = 5 ∨ q = 6 ∨ q = 7 := by omega
      rcases this with rfl | rfl | rfl | rfl | rfl | rfl | rfl | rfl <;> rfl
    have hp7 : 2 ^ (7 - s.length % 8) < 256 := by
      have : 2 ^ (7 - s.length % 8) ≤ 2 ^ 7 := Nat.pow_le_pow_right (by omega) (by omega)
      omega
    have hor : bits BinOp.or IntKind.u8 (byteAt s m : Nat) (128 / 2 ^ (s.length % 8)) = ((byteAt s m + bitv true (7 - s.length % 8) : Nat) : Int) := by
      rw [hsh, u8_or_nat _ _ hbx hp7, HMM.out, byteAt_or]; simp [bitv]
    rw [hor]
    have hown3 := hown.store (g := r) rfl (i := m) (by simp [HM.out]) (.int .u8 ((byteAt s m + bitv true (7 - s.length % 8) : Nat) : Int))
    have hl : ((pack s).map vb).set m (.int .u8 ((byteAt s m + bitv true (7 - s.length % 8) : Nat) : Int)) = (pack (s ++ [true])).map vb := by
      rw [pack_snoc_old s true h8, List.map_set, ← HMM.out]; rfl
    rw [hl] at hown3
    have hE := bw_end (b := true) (v := .slice (some ⟨r, 0, none⟩) (pack s).length cap) (hbox.far (p := ⟨r, m, none⟩) (fun e => hne e.symm) _) hown3 ((Keeps.refl _ w).setCell (p := ⟨r, m, none⟩) (.inl (.inr rfl)) _)
    exact ⟨rfl, _, hE.1, hE.2.drew, Moved.refl _ _⟩

theorem bit_any (g base : Nat) (v : Value) (s : List Bool) (b : Bool) (w : World) (h : BW w base g v s) (hs : s.length < 1099511627776) (hb : base ≤ w.heap.size) :
    Calls Tryz.prog 100 #[.pointer (some ⟨g, 0, none⟩), .bool b] w fun e w' => e = .returned (.tuple #[]) ∧
      ∃ v', BW w' base g v' (s ++ [b]) ∧ KeepsW g v w w' ∧ Moved w v v' := by
  by_cases h8 : s.length % 8 = 0
  · exact bit_new g base v s b w h hs h8 hb
  · exact bit_old g base v s b w h hs h8
end Go.Proofs.YtgkmfblmkfclbaaGreatDoor
namespace Go.Proofs.YtgkmfblmkfclbaaGreatDoor
open Go.RowKit Go.Shelf Pl
attribute [local go_sem] Oper.semAt_some

def down (k : Nat) : List (Fin 64) := (List.range k).map fun j => Fin.ofNat 64 (k - 1 - j)
theorem down_take (k j : Nat) (hj : j < k) (hk : k ≤ 64) : (down k).take (j + 1) = (down k).take j ++ [⟨k - 1 - j, by omega⟩] := by
  rw [List.take_succ_eq_append_getElem (by simp [down]; exact hj)]
  congr 1
  simp only [down, List.getElem_map, List.getElem_range]
  congr 1
  apply Fin.ext
  simp [Fin.ofNat]
  omega
theorem down_length (k : Nat) : (down k).length = k := by simp [down]

set_option maxHeartbeats 800000 in
theorem pos1_in (F : Fence) (n : Nat) (hf : F.fn 114) (hro : F.round = none) (hn : 1 ≤ n) (l Bn k : Nat) (hk : k ≤ 64) (J Jx : List (Fin 64) → World → Prop)
    (hY : ∀ pre (x : Fin 64) W, J pre W → pre.length < k → YieldAt F (n - 1) Tryz.prog l #[.int .i64 (x.val : Nat)] W fun e W' =>
      (e = .returned (.bool true) ∧ J (pre ++ [x]) W' ∧ True) ∨ (e = .returned (.bool false) ∧ Jx (pre ++ [x]) W'))
    (W : World) (hB : W.cell? ⟨Bn, 0, none⟩ = some (.int .i64 (k : Nat))) (h0 : J [] W) :
    CallsIn F n Tryz.prog 114 #[.func (.yield l) #[] #[], .pointer (some ⟨Bn, 0, none⟩)] W fun e W' => (∃ v, e = .returned v) ∧
      ((∃ xs, xs = down k ∧ J xs W') ∨ (∃ pre : List (Fin 64), True ∧ Jx pre W')) := by
  refine callsIn_of_wp Tryz.func114 rfl hf ?_ hro
  simp only [Tryz.ntmps114, List.size_toArray, List.length_cons, List.length_nil, Nat.reduceAdd, Nat.reduceSub, Array.replicate_succ, Array.replicate_zero, List.push_toArray, List.append_toArray, List.nil_append, List.cons_append]
  gi_wp2
  gi_loopw [3] (fun i wr => ∃ j : Nat, j ≤ k ∧ i = .int .i64 ((k : Int) - 1 - j) ∧ J ((down k).take j) wr) (fun i _ => (intOf i + 1).toNat)
  case atStart => exact ⟨0, by omega, by simp, by simpa using h0⟩
  case round =>
    obtain ⟨j, hj, rfl, hJ⟩ := hrel
    by_cases hlt : j < k
    · obtain ⟨fn, tmps, assign, body, hy, hR⟩ := hY _ ⟨k - 1 - j, by omega⟩ wr hJ (by rw [List.length_take, down_length]; omega)
      have e1 : (((k - 1 - j : Nat) : Nat) : Int) = (k : Int) - 1 - j := by omega
      simp only [e1] at hy
      gi_wp2
      refine hR.mono ?_
      rintro e W3 (⟨rfl, hJ3, -⟩ | ⟨rfl, hJx3⟩)
      · rw [← down_take k j hlt hk] at hJ3
        gi_wp2
        go_roundw
        case rel => exact ⟨j + 1, by omega, by go_num, hJ3⟩
        case measure => simp [intOf]; omega
      · gi_wp2
        refine bodyPost_ret (results_none rfl _ _ _) rfl ?_
        exact ⟨⟨_, rfl⟩, .inr ⟨_, trivial, hJx3⟩⟩
    · gi_wp2
      go_end0
      refine ⟨⟨_, rfl⟩, .inl ⟨_, rfl, ?_⟩⟩
      rw [List.take_of_length_le (by rw [down_length]; omega)] at hJ
      exact hJ

theorem pos1_stops (F : Fence) (n : Nat) (hf : F.fn 114) (hro : F.round = none) (hn : 1 ≤ n) (Bn k : Nat) (hk : k ≤ 64) (w : World) (hlt : Bn < w.heap.size) (hB : w.cell? ⟨Bn, 0, none⟩ = some (.int .i64 (k : Nat))) :
    SeqStopsK (α := Fin 64) F n Tryz.prog 114 #[.pointer (some ⟨Bn, 0, none⟩)] (fun x => #[.int .i64 (x.val : Nat)]) (fun _ _ => True) (fun xs => xs = down k) (fun _ => True) k w :=
  fun l J Jx W hW _ _ hY h0 => pos1_in F n hf hro hn l Bn k hk J Jx hY W ((hW.cell (p := ⟨Bn, 0, none⟩) hlt).trans hB) h0

theorem positions_any (k : Int) (w : World) :
    Calls Tryz.prog 101 #[.int .i64 k] w fun e w' => e = .returned (.func (.func 114) #[] #[.pointer (some ⟨w.heap.size, 0, none⟩)]) ∧ w' = w.alloc (.cells #[.int .i64 k] 3) := by
  go_enter Tryz.func101, Tryz.ntmps101
  go_wp2
  go_ret
  exact ⟨rfl, rfl⟩
theorem clamp_any (k : Nat) (hk : k ≤ 64) (w : World) :
    Calls Tryz.prog 102 #[.int .i64 (k : Nat)] w fun e w' => e = .returned (.int .i64 (k : Nat)) ∧ w = w' := by
  have h1 : ¬ ((k : Int) < 0) := by omega
  have h2 : ¬ ((64 : Int) < (k : Int)) := by omega
  go_enter Tryz.func102, Tryz.ntmps102
  go_wp2
  go_ret
  exact ⟨rfl, rfl⟩
end Go.Proofs.YtgkmfblmkfclbaaGreatDoor
