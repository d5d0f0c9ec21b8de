/- The reader of bits: Bits. -/
import Derived.Test.YtgkmfblmkfclbaaGreatDoorBlockSoundP06
namespace Go.Proofs.YtgkmfblmkfclbaaGreatDoor
open Go.RowKit Go.Shelf Pl
attribute [local go_sem] Oper.semAt_some

def accStep (bs : List Nat) (a : Nat) (n : Nat) (p : Fin 64 × Nat) : Nat := if bitAt bs (a + p.2) then n ||| 2 ^ p.1.val else n
def acc (bs : List Nat) (a : Nat) (pre : List (Fin 64)) : Nat := pre.zipIdx.foldl (accStep bs a) 0
theorem acc_snoc (bs : List Nat) (a : Nat) (pre : List (Fin 64)) (x : Fin 64) : acc bs a (pre ++ [x]) = if bitAt bs (a + pre.length) then acc bs a pre ||| 2 ^ x.val else acc bs a pre := by
  unfold acc
  rw [List.zipIdx_append, List.foldl_append]
  simp [accStep]
theorem acc_lt_aux (bs : List Nat) (a : Nat) (l : List (Fin 64 × Nat)) (n : Nat) (hn : n < 2 ^ 64) : l.foldl (accStep bs a) n < 2 ^ 64 := by
  induction l generalizing n with
  | nil => exact hn
  | cons p l ih =>
    refine ih _ ?_
    unfold accStep
    split
    · exact Nat.or_lt_two_pow hn (Nat.pow_lt_pow_right (by omega) p.1.isLt)
    · exact hn
theorem acc_lt (bs : List Nat) (a : Nat) (pre : List (Fin 64)) : acc bs a pre < 18446744073709551616 := by
  have := acc_lt_aux bs a pre.zipIdx 0 (by decide)
  unfold acc
  simpa using this
theorem or_bit (x p : Nat) : (x * 2 ^ (p + 1)) ||| 2 ^ p = x * 2 ^ (p + 1) + 2 ^ p :=
  nat_join (p + 1) _ _ (Nat.mul_mod_left _ _) (Nat.pow_lt_pow_right (by omega) (by omega))
theorem acc_take (bs : List Nat) (a k j : Nat) (hk : k ≤ 64) (hj : j ≤ k) (ha : a + k ≤ 8 * bs.length) : acc bs a ((down k).take j) = val (((bitsOf bs).drop a).take j) * 2 ^ (k - j) := by
  induction j with
  | zero => simp [acc, val]
  | succ j ih =>
    rw [down_take k j (by omega) hk, acc_snoc, List.length_take, down_length, ih (by omega), take_snoc_bits bs a j (by omega), val_snoc, show min j k = j by omega]
    have e : k - j = (k - 1 - j) + 1 := by omega
    have e2 : k - (j + 1) = k - 1 - j := by omega
    rw [e2, e]
    dsimp only
    generalize k - 1 - j = p
    cases bitAt bs (a + j)
    · simp only [Bool.false_eq_true, if_false, Bool.toNat_false, Nat.add_zero, Nat.pow_succ]
      rw [Nat.mul_comm 2 (val _), Nat.mul_assoc, Nat.mul_comm 2]
    · simp only [if_true, Bool.toNat_true]
      rw [or_bit, Nat.add_mul, Nat.one_mul, Nat.pow_succ]
      congr 1
      rw [Nat.mul_comm 2, Nat.mul_assoc, Nat.mul_comm 2]
theorem acc_down (bs : List Nat) (a k : Nat) (hk : k ≤ 64) (ha : a + k ≤ 8 * bs.length) : acc bs a (down k) = val (((bitsOf bs).drop a).take k) := by
  have := acc_take bs a k k hk (Nat.le_refl _) ha
  rw [List.take_of_length_le (by rw [down_length]; omega), Nat.sub_self, Nat.pow_zero, Nat.mul_one] at this
  exact this

theorem BR.abides {W W' : World} {row : Option Nat} {base g : Nat} {v : Value} {bs : List Nat} {a : Nat} {er : Int} (h : BR W base g v bs a er) (hg : W.grownBy W' row) (hr : ∀ r, row = some r → ∃ o : Obj, W.heap[r]? = some o ∧ o.isCells = false) : BR W' base g v bs a er :=
  ⟨h.box.abides hg hr, h.row.abides hg hr, h.bytes, h.small, h.here⟩
theorem BR.keep {W W' : World} {S : Nat → Prop} {base g : Nat} {v : Value} {bs : List Nat} {a : Nat} {er : Int} (h : BR W base g v bs a er) (hk : Keeps S W W') (hg : ¬ S g) (hv : ∀ k, v.ownBlock = some k → ¬ S k) : BR W' base g v bs a er :=
  ⟨h.box.keep hk hg, h.row.keep hk hv, h.bytes, h.small, h.here⟩
theorem BR.alloc {W : World} {base g : Nat} {v : Value} {bs : List Nat} {a : Nat} {er : Int} (h : BR W base g v bs a er) (o : Obj) : BR (W.alloc o) base g v bs a er :=
  ⟨h.box.alloc o, h.row.alloc o, h.bytes, h.small, h.here⟩

theorem others_drewN (W : World) (n : Nat) : KeepsOthers W (W.drewN n) := ⟨Nat.le_refl _, fun _ _ h _ => h⟩
/- one bit read: the place goes on -/
theorem rb_step {W : World} {w : World} {base g : Nat} {v : Value} {bs : List Nat} {a : Nat} {cs0 cs1 : Array Value} (h1 : BR W base g v bs a 0) (h2 : KeepsR g w W) (ha : a < 8 * bs.length) (h4 : Box W w.heap.size 120 cs0) (h5 : Box W (w.heap.size + 1) 65 cs1) (hlt : g < w.heap.size) :
    BR (W.setCell ⟨g, 1, none⟩ (.int .i64 ((a : Int) + 1))) base g v bs (a + 1) 0 ∧ KeepsR g w (W.setCell ⟨g, 1, none⟩ (.int .i64 ((a : Int) + 1))) ∧ Box (W.setCell ⟨g, 1, none⟩ (.int .i64 ((a : Int) + 1))) w.heap.size 120 cs0 ∧ Box (W.setCell ⟨g, 1, none⟩ (.int .i64 ((a : Int) + 1))) (w.heap.size + 1) 65 cs1 := by
  have e : (a : Int) + 1 = ((a + 1 : Nat) : Int) := by omega
  rw [e]
  exact ⟨h1.setAt (a + 1) (by omega), h2.trans (KeepsR.set g W 1 _), h4.far (by show w.heap.size ≠ g; omega) _, h5.far (by show w.heap.size + 1 ≠ g; omega) _⟩

theorem or_at (n : Nat) (x : Fin 64) (hn : n < 18446744073709551616) : bits BinOp.or IntKind.u64 (n : Nat) (IntKind.u64.wrap (2 ^ x.val)) = ((n ||| 2 ^ x.val : Nat) : Int) := by
  have hx : 2 ^ x.val < 18446744073709551616 := by
    have : 2 ^ x.val < 2 ^ 64 := Nat.pow_lt_pow_right (by omega) x.isLt
    simpa using this
  have e : IntKind.u64.wrap (2 ^ x.val : Int) = ((2 ^ x.val : Nat) : Int) := by
    rw [IntKind.wrap_u64]
    have : (2 ^ x.val : Int) = ((2 ^ x.val : Nat) : Int) := by rw [Int.natCast_pow]; rfl
    rw [this]
    generalize 2 ^ x.val = q at *
    omega
  rw [e, u64_or_nat _ _ hn hx]
/- a bit is laid into the number -/
theorem rb_store {W : World} {w : World} {base g : Nat} {v : Value} {bs : List Nat} {a : Nat} {cs0 : Array Value} {n : Nat} (h1 : BR W base g v bs a 0) (h2 : KeepsR g w W) (h4 : Box W w.heap.size 120 cs0) (h5 : Box W (w.heap.size + 1) 65 #[.int .u64 (n : Nat)]) (hlt : g < w.heap.size) (u : Value) :
    BR (W.setCell ⟨w.heap.size + 1, 0, none⟩ u) base g v bs a 0 ∧ KeepsR g w (W.setCell ⟨w.heap.size + 1, 0, none⟩ u) ∧ Box (W.setCell ⟨w.heap.size + 1, 0, none⟩ u) w.heap.size 120 cs0 ∧ Box (W.setCell ⟨w.heap.size + 1, 0, none⟩ u) (w.heap.size + 1) 65 #[u] := by
  refine ⟨⟨h1.box.far (by show g ≠ w.heap.size + 1; omega) _, h1.row.far (fun e => h1.row.ne_box e h5 (by decide) rfl) _, h1.bytes, h1.small, h1.here⟩, Keeps.setCell h2 (.inr (by show w.heap.size ≤ w.heap.size + 1; omega)) _, h4.far (by show w.heap.size ≠ w.heap.size + 1; omega) _, ?_⟩
  have := h5.set_ 0 u
  simpa using this

set_option maxHeartbeats 800000 in
set_option maxRecDepth 100000 in
theorem rdbits_short (g base : Nat) (v : Value) (bs : List Nat) (a k : Nat) (w : World) (h : BR w base g v bs a 0) (hk : k ≤ 64) (hs : 8 * bs.length - a < k) :
    Calls Tryz.prog 85 #[.pointer (some ⟨g, 0, none⟩), .int .i64 (k : Nat)] w fun e w' => e = .returned (.int .u64 0) ∧ KeepsR g w w' ∧ BR w' base g v bs a 3 := by
  refine (callsIn_wide (n := 5)).1 ?_
  refine callsIn_of_wp_marks Tryz.func85 rfl trivial ?_ rfl
  simp only [Tryz.ntmps85, List.size_toArray, List.length_cons, List.length_nil, Nat.reduceAdd, Nat.reduceSub, Array.replicate_succ, Array.replicate_zero, List.push_toArray, List.append_toArray, List.nil_append, List.cons_append]
  have h1 := h.alloc (.cells #[.pointer (some ⟨g, 0, none⟩)] 120)
  have c2 := h1.box.cell 2
  have f2 := h1.box.frozen 2
  simp only [List.getElem?_toArray, List.getElem?_cons_zero, List.getElem?_cons_succ] at c2
  have HL := Lib.hid (left_any g base v bs a 0 _ h1)
  have hlt := h.box.lt
  have ht : ((8 * bs.length - a : Nat) : Int) < (k : Int) := by omega
  gi_wp2_with (first | (refine ⟨trivial, ?_⟩; gi_at_call 102; refine (callsIn_wide.2 (clamp_any k hk _)).mono ?_; rintro e w' ⟨rfl, rfl⟩) | (refine ⟨trivial, ?_⟩; gi_at_call 86; refine (callsIn_wide.2 HL.out).mono ?_; rintro e w' ⟨rfl, n2, rfl⟩))
  refine ⟨_, results_tmp rfl _ _ _, rfl, ?_, (h1.drewN n2).setErr 3⟩
  exact KeepsR.trans (Keeps.drewN ((Keeps.refl _ w).alloc _) n2) (KeepsR.set g _ 2 _)

set_option maxRecDepth 100000 in
set_option maxHeartbeats 3200000 in
theorem rdbits_ok (g base : Nat) (v : Value) (bs : List Nat) (a k : Nat) (w : World) (h : BR w base g v bs a 0) (hk : k ≤ 64) (hs : a + k ≤ 8 * bs.length) :
    Calls Tryz.prog 85 #[.pointer (some ⟨g, 0, none⟩), .int .i64 (k : Nat)] w fun e w' => e = .returned (.int .u64 (val (((bitsOf bs).drop a).take k) : Nat)) ∧ KeepsR g w w' ∧ BR w' base g v bs (a + k) 0 := by
  refine (callsIn_wide (n := 5)).1 ?_
  refine callsIn_of_wp_marks Tryz.func85 rfl trivial ?_ rfl
  simp only [Tryz.ntmps85, List.size_toArray, List.length_cons, List.length_nil, Nat.reduceAdd, Nat.reduceSub, Array.replicate_succ, Array.replicate_zero, List.push_toArray, List.append_toArray, List.nil_append, List.cons_append]
  have h1 := h.alloc (.cells #[.pointer (some ⟨g, 0, none⟩)] 120)
  have c2 := h1.box.cell 2
  simp only [List.getElem?_toArray, List.getElem?_cons_zero, List.getElem?_cons_succ] at c2
  have HL := Lib.hid (left_any g base v bs a 0 _ h1)
  have hlt := h.box.lt
  have ht : ¬ (((8 * bs.length - a : Nat) : Int) < (k : Int)) := by omega
  have ht2 : decide (8 * bs.length - a < k) = false := by rw [decide_eq_false_iff_not]; omega
  gi_wp2_with (first | (refine ⟨trivial, ?_⟩; gi_at_call 102; refine (callsIn_wide.2 (clamp_any k hk _)).mono ?_; rintro e w' ⟨rfl, rfl⟩) | (refine ⟨trivial, ?_⟩; gi_at_call 86; refine (callsIn_wide.2 HL.out).mono ?_; rintro e w' ⟨rfl, n2, rfl⟩) | (refine ⟨trivial, ?_⟩; gi_at_call 101; refine (callsIn_wide.2 (positions_any _ _)).mono ?_; rintro e w' ⟨rfl, rfl⟩))
  have hW0 : BR ((((w.alloc (.cells #[.pointer (some ⟨g, 0, none⟩)] 120)).drewN n2).alloc (.cells #[.int .u64 0] 65)).alloc (.cells #[.int .i64 (k : Nat)] 3)) base g v bs a 0 := ((h1.drewN n2).alloc _).alloc _
  have hB0 : Box ((((w.alloc (.cells #[.pointer (some ⟨g, 0, none⟩)] 120)).drewN n2).alloc (.cells #[.int .u64 0] 65)).alloc (.cells #[.int .i64 (k : Nat)] 3)) w.heap.size 120 #[.pointer (some ⟨g, 0, none⟩)] := (Box.alloc (Box.drewN (Box.new w _ _) n2) _).alloc _
  have hB1 : Box ((((w.alloc (.cells #[.pointer (some ⟨g, 0, none⟩)] 120)).drewN n2).alloc (.cells #[.int .u64 0] 65)).alloc (.cells #[.int .i64 (k : Nat)] 3)) (w.heap.size + 1) 65 #[.int .u64 0] := by
    have := (Box.new ((w.alloc (.cells #[.pointer (some ⟨g, 0, none⟩)] 120)).drewN n2) 65 #[.int .u64 0]).alloc (.cells #[.int .i64 (k : Nat)] 3)
    simpa using this
  have hB2 : Box ((((w.alloc (.cells #[.pointer (some ⟨g, 0, none⟩)] 120)).drewN n2).alloc (.cells #[.int .u64 0] 65)).alloc (.cells #[.int .i64 (k : Nat)] 3)) (w.heap.size + 1 + 1) 3 #[.int .i64 (k : Nat)] := by
    have := Box.new (((w.alloc (.cells #[.pointer (some ⟨g, 0, none⟩)] 120)).drewN n2).alloc (.cells #[.int .u64 0] 65)) 3 #[.int .i64 (k : Nat)]
    simpa using this
  have hK0 : KeepsR g w ((((w.alloc (.cells #[.pointer (some ⟨g, 0, none⟩)] 120)).drewN n2).alloc (.cells #[.int .u64 0] 65)).alloc (.cells #[.int .i64 (k : Nat)] 3)) := ((((Keeps.refl _ w).alloc _).drewN n2).alloc _).alloc _
  have hsz : ((((w.alloc (.cells #[.pointer (some ⟨g, 0, none⟩)] 120)).drewN n2).alloc (.cells #[.int .u64 0] 65)).alloc (.cells #[.int .i64 (k : Nat)] 3)).heap.size = w.heap.size + 3 := by simp
  clear c2 HL h1
  generalize ((((w.alloc (.cells #[.pointer (some ⟨g, 0, none⟩)] 120)).drewN n2).alloc (.cells #[.int .u64 0] 65)).alloc (.cells #[.int .i64 (k : Nat)] 3)) = W0 at *
  refine wpIn_rangeFunc_ownF (α := Fin 64) rfl (by omega) (gf := 114) (lb := #[.pointer (some ⟨w.heap.size + 1 + 1, 0, none⟩)]) rfl trivial (enters_of Tryz.func114 (by kernel_rfl) rfl)
    (pos1_stops Fence.wide 4 trivial rfl (by omega) (w.heap.size + 1 + 1) k hk W0 (by omega) (hB2.cell 0)) (fun _ _ => trivial) (fun _ _ _ _ _ _ _ _ => trivial) (Below.refl _ _) (fun _ => rfl)
    (fun pre W => BR W base g v bs (a + pre.length) 0 ∧ KeepsR g w W ∧ Box W w.heap.size 120 #[.pointer (some ⟨g, 0, none⟩)] ∧ Box W (w.heap.size + 1) 65 #[.int .u64 (acc bs a pre : Nat)])
    (fun _ _ _ => False)
    (fun pre A B row ⟨h1, h2, h4, h5⟩ hg hr => ⟨h1.abides hg (fun r e => (hr r e).2), Keeps.abides h2 hg (by omega) (fun r e => (hr r e).1), h4.abides hg (fun r e => (hr r e).2), h5.abides hg (fun r e => (hr r e).2)⟩)
    (fun _ _ _ _ _ hs _ _ => hs)
    ⟨hW0, hK0, hB0, hB1⟩
    (fun x => { tmps := #[.pointer (some ⟨g, 0, none⟩), .int .i64 (k : Nat), .pointer (some ⟨w.heap.size, 0, none⟩), undef, .int .u64 0, .pointer (some ⟨w.heap.size + 1, 0, none⟩), .int .i64 (x.val : Nat), .pointer (some ⟨g, 0, none⟩), .pointer (some ⟨g, 0, none⟩), .pointer (some ⟨g, 2, none⟩), .int .i64 0, .bool false, .int .i64 (k : Nat), .int .i64 (k : Nat), .int .i64 (k : Nat), .pointer (some ⟨g, 0, none⟩), .int .i64 ((8 * bs.length - a : Nat) : Int), .bool false, undef, undef, undef, .int .i64 (k : Nat), .func (.func 114) #[] #[.pointer (some ⟨w.heap.size + 1 + 1, 0, none⟩)], .int .i64 (x.val : Nat), undef, undef, undef, undef, undef, undef, undef, undef, undef, undef, undef, undef, undef, undef, undef, undef, undef, undef], defers := [] }) ?assign ?body ?done ?stop
  case assign =>
    intro l x W K hK
    gi_wp2
    exact hK
  case body =>
    rintro l pre x W ⟨h1, h2, h4, h5⟩ hpre
    have hx := x.isLt
    have hmx : Tryz.prog.follows .mixedOrders = true := by kernel_rfl
    have c0 := h4.cell 0
    have c1 := h5.cell 0
    have f1 := h5.frozen 0
    have r1 := h1.box.cell 1
    have fr1 := h1.box.frozen 1
    have hg0 : w.heap.size ≠ g := by omega
    have hg1 : w.heap.size + 1 ≠ g := by omega
    have hsm := h1.small
    have HS := Lib.hid (set_any g base v bs (a + pre.length) (a + pre.length) 0 W.drew (h1.drewN 1) (by omega))
    have HA := Lib.hid (acc_snoc bs a pre x)
    have HAL := Lib.hid (acc_lt bs a pre)
    simp only [List.getElem?_toArray, List.getElem?_cons_zero, List.getElem?_cons_succ] at c0 c1 r1
    cases hb : bitAt bs (a + pre.length) with
    | false =>
      have HB := Lib.hid hb
      clear hb
      gi_wp2
      gi_region_with_o (refine ⟨trivial, ?_⟩; gi_at_call 87; refine (CallsIn.inRound l (callsIn_wide.2 HS.out)).mono ?_; rw [HB.out]; rintro e w2 ⟨rfl, n4, rfl⟩)
      all_goals gi_wp2
      all_goals
        have hst := rb_step (W := W.drewN (1 + n4)) (w := w) (h1.drewN _) (h2.drewN _) (by omega) (h4.drewN _) (h5.drewN _) hlt
        have ec : ((a + pre.length : Nat) : Int) + 1 = (a : Int) + (pre.length : Int) + 1 := by omega
        rw [ec] at hst
        refine ⟨(others_drewN W _).trans (KeepsOthers.setCell _ _ _), trivial, ?_, hst.2.1, hst.2.2.1, ?_⟩
        · rw [List.length_append]; exact hst.1
        · rw [HA.out, HB.out]; exact hst.2.2.2
    | true =>
      have HB := Lib.hid hb
      clear hb
      gi_wp2
      gi_region_with_o (refine ⟨trivial, ?_⟩; gi_at_call 87; refine (CallsIn.inRound l (callsIn_wide.2 HS.out)).mono ?_; rw [HB.out]; rintro e w2 ⟨rfl, n4, rfl⟩)
      all_goals gi_wp2
      all_goals gi_region_with_o (fail)
      all_goals gi_wp2
      all_goals
        have hs1 := rb_store (W := W.drewN (1 + n4 + 1)) (w := w) (h1.drewN _) (h2.drewN _) (h4.drewN _) (h5.drewN _) hlt (.int .u64 ((acc bs a pre ||| 2 ^ x.val : Nat) : Int))
        have hst := rb_step (w := w) hs1.1 hs1.2.1 (by omega) hs1.2.2.1 hs1.2.2.2 hlt
        have ec : ((a + pre.length : Nat) : Int) + 1 = (a : Int) + (pre.length : Int) + 1 := by omega
        rw [ec] at hst
        rw [or_at _ _ HAL.out]
        refine ⟨((others_drewN W _).trans (KeepsOthers.setCell _ _ _)).trans (KeepsOthers.setCell _ _ _), trivial, ?_, hst.2.1, hst.2.2.1, ?_⟩
        · rw [List.length_append]; exact hst.1
        · rw [HA.out, HB.out]; exact hst.2.2.2
  case done =>
    rintro D ys W hD rfl ⟨h1, h2, h4, h5⟩ hK
    rw [down_length] at h1
    rw [acc_down bs a k hk hs] at h5
    have c1 := h5.cell 0
    simp only [List.getElem?_toArray, List.getElem?_cons_zero] at c1
    gi_wp2
    refine ⟨by simp, .inl ⟨_, _, rfl, run_takeDeferred hK, ?_⟩⟩
    refine ⟨_, results_tmp rfl _ _ _, rfl, ?_, ?_⟩
    · exact Keeps.abides h2 (grownBy_putObj' W D _) (B := W0.heap.size) (by omega) (fun r e => by cases e; exact hD)
    · exact h1.abides (grownBy_putObj' W D _) (fun r e => by cases e; exact ⟨_, hK, rfl⟩)
  case stop =>
    rintro D c pre W _ _ h _
    exact h.elim
end Go.Proofs.YtgkmfblmkfclbaaGreatDoor
