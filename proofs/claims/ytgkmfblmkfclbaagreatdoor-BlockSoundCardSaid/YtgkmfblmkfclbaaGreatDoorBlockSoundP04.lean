/- The writer of bits: the lowest bits of a number. The writer of bits: a number in unary; the bytes at the end. The plain law of lists of numbers: encoding and decoding undo each other, and the reference reads the same. -/
import Derived.Test.YtgkmfblmkfclbaaGreatDoorBlockSoundP03
import Derived.WalkSpells
import Derived.IntWalk
import Derived.Test.YtgkmfblmkfclbaaGreatDoorBlockSoundP02
namespace Go.Proofs.YtgkmfblmkfclbaaGreatDoor
open Go.RowKit Go.Shelf Pl
attribute [local go_sem] Oper.semAt_some

section
variable {W W' : World} {row : Option Nat} {g : Nat} {t : TypeId} {cs : Array Value}
theorem Box.abides (h : Box W g t cs) (hg : W.grownBy W' row) (hr : ∀ r, row = some r → ∃ o : Obj, W.heap[r]? = some o ∧ o.isCells = false) : Box W' g t cs := by
  refine (hg.block g h.lt (fun e => ?_)).trans h
  obtain ⟨o, ho, hc⟩ := hr g e.symm
  unfold Box at h
  rw [h] at ho
  injection ho with ho
  subst ho
  simp [Obj.isCells] at hc
theorem Mine.abides {base : Nat} {e : TypeId} {v : Value} {xs : List Value} (h : Mine W base e v xs) (hg : W.grownBy W' row) (hr : ∀ r, row = some r → ∃ o : Obj, W.heap[r]? = some o ∧ o.isCells = false) : Mine W' base e v xs := by
  rcases h.form with ⟨rfl, rfl⟩ | ⟨g, cap, cur, rfl, hb, hbox, h1, h2, h3, h4⟩
  · exact Mine.nil _ _ _
  · exact Mine.mk' hb (hbox.abides hg hr) h1 h2 h3 h4
theorem BW.abides {base : Nat} {v : Value} {s : List Bool} (h : BW W base g v s) (hg : W.grownBy W' row) (hr : ∀ r, row = some r → ∃ o : Obj, W.heap[r]? = some o ∧ o.isCells = false) : BW W' base g v s :=
  ⟨h.1.abides hg hr, h.2.abides hg hr⟩
theorem Keeps.abides {S : Nat → Prop} {w : World} (h : Keeps S w W) (hg : W.grownBy W' row) {B : Nat} (hB : w.heap.size ≤ B) (hr : ∀ r, row = some r → B ≤ r) : Keeps S w W' :=
  h.grown hg fun k e hk => absurd (hr k e) (by omega)
/- cells alone have turned -/
theorem Keeps.others {S : Nat → Prop} (h : Keeps S W W') (hs : ∀ i o, S i → W.heap[i]? = some o → o.isCells = true) : KeepsOthers W W' :=
  ⟨h.size, fun k o hk ho => by
    have hlt : k < W.heap.size := by
      rcases Nat.lt_or_ge k W.heap.size with h | h
      · exact h
      · rw [Array.getElem?_eq_none h] at hk; cases hk
    refine (h.block k hlt (fun e => ?_)).trans hk
    have := hs k o e hk
    rw [ho] at this
    cases this⟩
theorem KeepsW.others {base : Nat} {v : Value} {s : List Bool} (h : KeepsW g v W W') (hb : BW W base g v s) : KeepsOthers W W' :=
  Keeps.others h fun i o e ho => by
    rcases e with rfl | e
    · have := hb.1
      unfold Box at this
      rw [this] at ho
      injection ho with ho
      subst ho; rfl
    · rcases hb.2.form with ⟨rfl, _⟩ | ⟨g', cap, cur, rfl, _, hbox, _⟩
      · cases e
      · have : g' = i := by simpa [Value.ownBlock] using e
        subst this
        unfold Box at hbox
        rw [hbox] at ho
        injection ho with ho
        subst ho; rfl
end

theorem bin_down (z k : Nat) (hk : k ≤ 64) : (down k).map (fun x => z.testBit x.val) = bin z k := by
  unfold down bin
  rw [List.map_map]
  apply List.map_congr_left
  intro j hj
  rw [List.mem_range] at hj
  simp only [Function.comp, Fin.ofNat]
  rw [Nat.mod_eq_of_lt (by omega)]

theorem bit_at (z x : Nat) (hz : z < 18446744073709551616) : (bits BinOp.and IntKind.u64 ((z : Int) / 2 ^ x) 1 == 1) = z.testBit x := by
  have e : ((z : Int) / 2 ^ x) = ((z / 2 ^ x : Nat) : Int) := by
    rw [Int.natCast_ediv, Int.natCast_pow]; rfl
  have hl : z / 2 ^ x < 18446744073709551616 := Nat.lt_of_le_of_lt (Nat.div_le_self _ _) hz
  have h := u64_and_nat (z / 2 ^ x) 1 hl (by omega)
  rw [e]
  rw [show ((1 : Nat) : Int) = 1 from rfl] at h
  rw [h, nat_mask1, Nat.testBit_eq_decide_div_mod_eq]
  have : z / 2 ^ x % 2 = 0 ∨ z / 2 ^ x % 2 = 1 := by omega
  rcases this with h | h <;> rw [h] <;> rfl

set_option maxRecDepth 100000 in
set_option maxHeartbeats 2000000 in
theorem wbits_any (g base : Nat) (v : Value) (s : List Bool) (z k : Nat) (w : World) (h : BW w base g v s) (hs : s.length < 1099511627000) (hb : base ≤ w.heap.size) (hz : z < 18446744073709551616) (hk : k ≤ 64) :
    Calls Tryz.prog 82 #[.pointer (some ⟨g, 0, none⟩), .int .u64 (z : Nat), .int .i64 (k : Nat)] w fun e w' => e = .returned (.tuple #[]) ∧
      ∃ v', BW w' base g v' (s ++ bin z k) ∧ KeepsW g v w w' ∧ Moved w v v' := by
  refine (callsIn_wide (n := 5)).1 ?_
  refine callsIn_of_wp_marks Tryz.func82 rfl trivial ?_ rfl
  simp only [Tryz.ntmps82, List.size_toArray, List.length_cons, List.length_nil, Nat.reduceAdd, Nat.reduceSub, Array.replicate_succ, Array.replicate_zero, List.push_toArray, List.append_toArray, List.nil_append, List.cons_append]
  gi_wp2_with (first | (refine ⟨trivial, ?_⟩; gi_at_call 102; refine (callsIn_wide.2 (clamp_any k hk _)).mono ?_; rintro e w' ⟨rfl, rfl⟩) | (refine ⟨trivial, ?_⟩; gi_at_call 101; refine (callsIn_wide.2 (positions_any _ _)).mono ?_; rintro e w' ⟨rfl, rfl⟩))
  have hB0 := ((Box.new w 115 #[Value.pointer (some ⟨g, 0, none⟩)]).alloc (.cells #[Value.int .u64 (z : Nat)] 65)).alloc (.cells #[Value.int .i64 (k : Nat)] 3)
  have hB1 := (Box.new (w.alloc (.cells #[Value.pointer (some ⟨g, 0, none⟩)] 115)) 65 #[Value.int .u64 (z : Nat)]).alloc (.cells #[Value.int .i64 (k : Nat)] 3)
  have hB2 := Box.new ((w.alloc (.cells #[Value.pointer (some ⟨g, 0, none⟩)] 115)).alloc (.cells #[Value.int .u64 (z : Nat)] 65)) 3 #[Value.int .i64 (k : Nat)]
  have hK0 : KeepsW g v w (((w.alloc (.cells #[Value.pointer (some ⟨g, 0, none⟩)] 115)).alloc (.cells #[Value.int .u64 (z : Nat)] 65)).alloc (.cells #[Value.int .i64 (k : Nat)] 3)) := (((Keeps.refl _ w).alloc _).alloc _).alloc _
  have hW0 : BW (((w.alloc (.cells #[Value.pointer (some ⟨g, 0, none⟩)] 115)).alloc (.cells #[Value.int .u64 (z : Nat)] 65)).alloc (.cells #[Value.int .i64 (k : Nat)] 3)) base g v s := ⟨((h.1.alloc _).alloc _).alloc _, ((h.2.alloc _).alloc _).alloc _⟩
  have hsz : (((w.alloc (.cells #[Value.pointer (some ⟨g, 0, none⟩)] 115)).alloc (.cells #[Value.int .u64 (z : Nat)] 65)).alloc (.cells #[Value.int .i64 (k : Nat)] 3)).heap.size = w.heap.size + 3 := by simp
  rw [World.size_alloc] at hB1
  rw [World.size_alloc, World.size_alloc] at hB2
  generalize (((w.alloc (.cells #[Value.pointer (some ⟨g, 0, none⟩)] 115)).alloc (.cells #[Value.int .u64 (z : Nat)] 65)).alloc (.cells #[Value.int .i64 (k : Nat)] 3)) = W0 at *
  refine wpIn_rangeFunc_ownF (α := Fin 64) rfl (by omega) (gf := 114) (lb := #[.pointer (some ⟨w.heap.size + 1 + 1, 0, none⟩)]) rfl trivial (enters_of Tryz.func114 (by kernel_rfl) rfl)
    (pos1_stops Fence.wide 4 trivial rfl (by omega) (w.heap.size + 1 + 1) k hk W0 (by omega) (hB2.cell 0)) (fun _ _ => trivial) (fun _ _ _ _ _ _ _ _ => trivial) (Below.refl _ _) (fun _ => rfl)
    (fun pre W => ∃ v', BW W base g v' (s ++ pre.map (fun x => z.testBit x.val)) ∧ KeepsW g v w W ∧ Moved w v v' ∧ Box W w.heap.size 115 #[.pointer (some ⟨g, 0, none⟩)] ∧ Box W (w.heap.size + 1) 65 #[.int .u64 (z : Nat)])
    (fun _ _ _ => False)
    (fun pre A B row ⟨v', h1, h2, h3, h4, h5⟩ hg hr => ⟨v', h1.abides hg (fun r e => (hr r e).2), Keeps.abides h2 hg (by omega) (fun r e => (hr r e).1), h3, h4.abides hg (fun r e => (hr r e).2), h5.abides hg (fun r e => (hr r e).2)⟩)
    (fun _ _ _ _ _ hs _ _ => hs)
    ⟨v, by simpa using hW0, hK0, Moved.refl _ _, hB0, hB1⟩
    (fun x => { tmps := #[.pointer (some ⟨g, 0, none⟩), .int .u64 (z : Nat), .int .i64 (k : Nat), .pointer (some ⟨w.heap.size, 0, none⟩), .pointer (some ⟨w.heap.size + 1, 0, none⟩), undef, .int .i64 (x.val : Nat), .int .i64 (k : Nat), .int .i64 (k : Nat), .func (.func 114) #[] #[.pointer (some ⟨w.heap.size + 1 + 1, 0, none⟩)], .int .i64 (x.val : Nat), undef, undef, undef, undef, undef, undef, undef], defers := [] }) ?assign ?body ?done ?stop
  case assign =>
    intro l x W K hK
    gi_wp2
    exact hK
  case body =>
    rintro l pre x W ⟨v', h1, h2, h3, h4, h5⟩ hpre
    have hx := x.isLt
    have hmx : Tryz.prog.follows .mixedOrders = true := by kernel_rfl
    have c0 := h4.cell 0
    have c1 := h5.cell 0
    simp only [List.getElem?_toArray, List.getElem?_cons_zero] at c0 c1
    gi_wp2
    have hlen : (s ++ pre.map (fun x => z.testBit x.val)).length < 1099511627776 := by simp; omega
    have hbW : base ≤ W.drew.heap.size := Nat.le_trans hb h2.size
    have hbit := bit_any g base v' (s ++ pre.map (fun x => z.testBit x.val)) (bits BinOp.and IntKind.u64 ((z : Int) / 2 ^ x.val) 1 == 1) W.drew h1 hlen hbW
    have HB := Lib.hid hbit
    clear hbit hlen hbW
    gi_region_with_o (refine ⟨trivial, ?_⟩; gi_at_call 100; refine (CallsIn.inRound l (callsIn_wide.2 HB.out)).mono ?_; rintro e w2 ⟨rfl, v2, k1, k2, k3⟩)
    all_goals gi_wp2
    all_goals
      refine ⟨(KeepsOthers.drew W).trans (KeepsW.others (W := W.drew) k2 h1), trivial, v2, ?_, ?_, ?_, ?_, ?_⟩
      · rw [bit_at z x.val hz] at k1
        rw [List.map_append, ← List.append_assoc]
        exact k1
      · exact KeepsW.trans (Keeps.drew h2) h3 k2
      · exact h3.trans (w1 := W.drew) h2.size k3
      · exact Box.keep (w := W.drew) h4 k2 (by
          rintro (e | e)
          · have := h.1.lt; omega
          · exact h1.2.ne_box e h4 (by decide) rfl)
      · exact Box.keep (w := W.drew) h5 k2 (by
          rintro (e | e)
          · have := h.1.lt; omega
          · exact h1.2.ne_box e h5 (by decide) rfl)
  case done =>
    rintro D ys W hD rfl ⟨v', h1, h2, h3, h4, h5⟩ hK
    gi_wp2
    refine ⟨by simp, .inl ⟨_, _, rfl, run_takeDeferred hK, ?_⟩⟩
    refine ⟨_, results_none rfl _ _ _, rfl, v', ?_, ?_, h3⟩
    · rw [bin_down z k hk] at h1
      exact h1.abides (grownBy_putObj' W D _) (fun r e => by cases e; exact ⟨_, hK, rfl⟩)
    · exact Keeps.abides h2 (grownBy_putObj' W D _) (B := W0.heap.size) (by omega) (fun r e => by cases e; exact hD)
  case stop =>
    rintro D c pre W _ _ h _
    exact h.elim
end Go.Proofs.YtgkmfblmkfclbaaGreatDoor
namespace Go.Proofs.YtgkmfblmkfclbaaGreatDoor
open Go.RowKit Pl

set_option maxHeartbeats 800000 in
theorem wunary_any (g base : Nat) (v : Value) (s : List Bool) (n : Nat) (w : World) (h : BW w base g v s) (hs : s.length < 1099511600000) (hb : base ≤ w.heap.size) (hn : n ≤ 64) :
    Calls Tryz.prog 81 #[.pointer (some ⟨g, 0, none⟩), .int .i64 (n : Nat)] w fun e w' => e = .returned (.tuple #[]) ∧
      ∃ v', BW w' base g v' (s ++ un n) ∧ KeepsW g v w w' ∧ Moved w v v' := by
  have h1 : ¬ ((n : Int) < 0) := by omega
  have h2 : ¬ ((65536 : Int) < (n : Int)) := by omega
  go_enter Tryz.func81, Tryz.ntmps81
  go_wp2_with fail
  go_loopw [7] (fun i wr => ∃ (j : Nat) (v' : Value), j ≤ n ∧ i = .int .i64 j ∧ BW wr base g v' (s ++ List.replicate j true) ∧ KeepsW g v w wr ∧ Moved w v v') (fun i _ => n - (intOf i).toNat)
  case atStart => exact ⟨0, v, by omega, rfl, by simpa using h, Keeps.refl _ _, Moved.refl _ _⟩
  case round =>
    obtain ⟨j, v', hj, rfl, hB, hK, hM⟩ := hrel
    have hbW : base ≤ wr.heap.size := Nat.le_trans hb hK.size
    have hlen : (s ++ List.replicate j true).length < 1099511627776 := by simp; omega
    by_cases hlt : j < n
    · go_wp2_with (go_at_call 100; refine (bit_any g base v' _ true _ hB hlen hbW).mono ?_; rintro e w2 ⟨rfl, v2, k1, k2, k3⟩)
      go_roundw
      case rel => exact ⟨j + 1, v2, by omega, by go_num, by rw [List.replicate_succ', ← List.append_assoc]; exact k1, hK.trans hM k2, hM.trans hK.size k3⟩
      case measure => simp [intOf]; omega
    · obtain rfl : j = n := by omega
      go_wp2_with (go_at_call 100; refine (bit_any g base v' _ false _ hB hlen hbW).mono ?_; rintro e w2 ⟨rfl, v2, k1, k2, k3⟩)
      go_end0
      exact ⟨rfl, v2, by unfold un; rw [← List.append_assoc]; exact k1, hK.trans hM k2, hM.trans hK.size k3⟩

theorem Mine.empty (w : World) (e : TypeId) : Mine (w.alloc (.cells #[] e)) w.heap.size e (.slice (some ⟨w.heap.size, 0, none⟩) 0 0) [] :=
  Mine.mk' (xs := []) (Nat.le_refl _) (Box.new w e #[]) (by simp) (by unfold maxLen; omega) rfl rfl
theorem one_vb (bs : List Nat) : ∀ u ∈ bs.map vb, u.oneCell' = true := by
  intro u hu
  obtain ⟨x, _, rfl⟩ := List.mem_map.1 hu
  rfl
/- slices.Clone at bytes: nil stays nil; else a row of the call's own -/
set_option maxHeartbeats 800000 in
set_option maxRecDepth 100000 in
theorem clone_any (v : Value) (bs : List Nat) (w : World) (h : Rd w w.heap.size v (bs.map vb)) (hs : bs.length ≤ 1099511627776) :
    Calls Tryz.prog 53 #[v] w fun e w' => ∃ v', e = .returned v' ∧ Mine w' w.heap.size 5 v' (bs.map vb) ∧ Grew w w' := by
  have hnil := fun (W : World) (a : Option Addr) (n c n' c' : Nat) => Lib.run_eql_slice_nil (P := Tryz.prog) W 42 5 a n c n' c' Tryz.underlying42
  have h1 := h.alloc (Nat.le_refl _) (.cells #[] 5)
  obtain ⟨A, n, c, rfl, hn, hc⟩ := h.form
  have HN := Lib.hid hn
  clear hn
  rcases A with _ | ad
  · obtain rfl : bs = [] := by simpa using h.nil_of
    clear h1
    go_enter Tryz.func53, Tryz.ntmps53
    go_wp2_with fail
    go_ret
    exact ⟨_, rfl, Mine.nil _ _ _, Grew.refl _⟩
  · go_enter Tryz.func53, Tryz.ntmps53
    go_wp2_with (at_builtin; refine app_any slU8 rfl (.tmp 5) (.tmp 6) rfl rfl (Mine.empty w _) rfl h1 (one_vb bs) (by simp; omega) (by simp) ?k)
    case k =>
    intro A m cap w1 hm hown hk hr
    go_wp2
    go_ret
    refine ⟨_, rfl, by simpa using hown, ?_⟩
    exact ((Keeps.refl _ w).alloc _).then_ hk (fun i hi e => by
      have : w.heap.size = i := by simpa [Value.ownBlock] using e
      omega)

set_option maxHeartbeats 800000 in
theorem wdone_any (g base : Nat) (v : Value) (s : List Bool) (w : World) (h : BW w base g v s) (hs : s.length < 1099511627776) :
    Calls Tryz.prog 62 #[.pointer (some ⟨g, 0, none⟩)] w fun e w' => ∃ v', e = .returned v' ∧ Mine w' w.heap.size 5 v' ((pack s).map vb) ∧ Grew w w' := by
  have c0 := h.1.cell 0
  have hr := h.2.rd
  have hl : (pack s).length ≤ 1099511627776 := by rw [pack_length]; omega
  obtain ⟨A, n, cap, rfl⟩ : ∃ A n cap, v = .slice A n cap := by
    obtain ⟨A, c, rfl, _⟩ := hr
    exact ⟨_, _, _, rfl⟩
  simp only [List.getElem?_toArray, List.getElem?_cons_zero] at c0
  have HC := Lib.hid (clone_any _ _ w hr hl)
  clear hr hl h
  go_enter Tryz.func62, Tryz.ntmps62
  go_wp2_with (go_at_call 53; refine HC.out.mono ?_; rintro e w2 ⟨v2, rfl, k1, k2⟩)
  go_ret
  exact ⟨_, rfl, k1, k2⟩
end Go.Proofs.YtgkmfblmkfclbaaGreatDoor
namespace Go.Proofs.YtgkmfblmkfclbaaGreatDoor.Pl
open Go.RowKit

theorem wrap_I64 (x : Int) : I64 (wrap64 x) := by unfold I64 wrap64; omega
theorem wrap_of {x : Int} (h : I64 x) : wrap64 x = x := by unfold I64 at h; unfold wrap64; omega

/- differences of differences -/
def seconds : Int → Int → List Int → List Int
  | _, _, [] => []
  | b, a, n :: l => wrap64 (n - 2 * a + b) :: seconds a n l
def codes (l : List Int) : List Bool := l.flatMap code
def ints (l : List Int) : List Bool := code l.length ++ codes (seconds 0 0 l)

/- the numbers ahead of place j: the last, and the one before -/
def p1 (l : List Int) (j : Nat) : Int := (0 :: l).getD j 0
def p2 (l : List Int) (j : Nat) : Int := (0 :: 0 :: l).getD j 0
theorem p1_zero (l : List Int) : p1 l 0 = 0 := rfl
theorem p2_zero (l : List Int) : p2 l 0 = 0 := rfl
theorem p1_succ (l : List Int) (j : Nat) : p1 l (j + 1) = l.getD j 0 := rfl
theorem p2_succ (l : List Int) (j : Nat) : p2 l (j + 1) = p1 l j := rfl
theorem seconds_length (b a : Int) (l : List Int) : (seconds b a l).length = l.length := by
  induction l generalizing b a with
  | nil => rfl
  | cons x l ih => simp [seconds, ih]
theorem seconds_getElem? (b a : Int) (l : List Int) (j : Nat) (hj : j < l.length) :
    (seconds b a l)[j]? = some (wrap64 (l.getD j 0 - 2 * (a :: l).getD j 0 + (b :: a :: l).getD j 0)) := by
  induction l generalizing b a j with
  | nil => simp at hj
  | cons x l ih =>
    cases j with
    | zero => rfl
    | succ j => exact ih a x j (by simpa using hj)
theorem seconds_take (l : List Int) (j : Nat) (hj : j < l.length) : (seconds 0 0 l).take (j + 1) = (seconds 0 0 l).take j ++ [wrap64 (l.getD j 0 - 2 * p1 l j + p2 l j)] := by
  rw [List.take_add_one, seconds_getElem? 0 0 l j hj]; rfl
theorem codes_snoc (l : List Int) (x : Int) : codes (l ++ [x]) = codes l ++ code x := by simp [codes]
theorem codes_len (l : List Int) : (codes l).length ≤ 70 * l.length := by
  induction l with
  | nil => simp [codes]
  | cons x l ih =>
    have := code_len_le x
    simp only [codes, List.flatMap_cons, List.length_append, List.length_cons] at *
    omega

def reads : Nat → Int → Int → List Bool → Option (List Int × List Bool)
  | 0, _, _, s => some ([], s)
  | k + 1, b, a, s =>
    match parse s with
    | none => none
    | some (d, t) => (reads k a (wrap64 (d + 2 * a - b)) t).map fun p => (wrap64 (d + 2 * a - b) :: p.1, p.2)
def padded (r : List Bool) : Prop := r.length < 8 ∧ ∀ b ∈ r, b = false
instance (r : List Bool) : Decidable (padded r) := by unfold padded; infer_instance
def finInts (N : Nat) (t : List Bool) : Option (List Int) :=
  match reads N 0 0 t with
  | none => none
  | some (l, r) => if padded r then some l else none
def readInts (bs : List Nat) : Option (List Int) :=
  match parse (bitsOf bs) with
  | none => none
  | some (n, t) => if n < 0 then none else finInts n.toNat t
def finRef (bs : List Nat) (N : Nat) (t : List Bool) : Option (List Int) :=
  match reads N 0 0 t with
  | none => none
  | some (l, _) => if pack (ints l) = bs then some l else none
def refReadInts (bs : List Nat) : Option (List Int) :=
  match parse (bitsOf bs) with
  | none => none
  | some (n, t) => if n < 0 ∨ (bitsOf bs).length < n then none else finRef bs n.toNat t

theorem reads_some {k : Nat} {b a : Int} {s : List Bool} {l : List Int} {r : List Bool} (h : reads k b a s = some (l, r)) :
    s = codes (seconds b a l) ++ r ∧ l.length = k ∧ k + r.length ≤ s.length ∧ ∀ x ∈ l, I64 x := by
  induction k generalizing b a s l r with
  | zero =>
    simp only [reads, Option.some.injEq, Prod.mk.injEq] at h
    obtain ⟨rfl, rfl⟩ := h
    simp [seconds, codes]
  | succ k ih =>
    simp only [reads] at h
    split at h
    · simp at h
    · rename_i d t hp
      simp only [Option.map_eq_some_iff] at h
      obtain ⟨⟨l', r'⟩, hr, he⟩ := h
      simp only [Prod.mk.injEq] at he
      obtain ⟨rfl, rfl⟩ := he
      obtain ⟨e1, e2, e3, e4⟩ := ih hr
      obtain ⟨hs, hd⟩ := code_parse hp
      have hl := parse_length hp
      have hw : wrap64 (wrap64 (d + 2 * a - b) - 2 * a + b) = d := by
        rw [show d = wrap64 d from (wrap_of hd).symm]; unfold wrap64; omega
      refine ⟨?_, by simp [e2], by omega, ?_⟩
      · rw [hs, e1]
        simp only [seconds, codes, List.flatMap_cons, hw, List.append_assoc]
      · intro x hx
        rcases List.mem_cons.1 hx with rfl | hx
        · exact wrap_I64 _
        · exact e4 x hx

theorem reads_ints (l : List Int) (b a : Int) (h : ∀ x ∈ l, I64 x) (r : List Bool) : reads l.length b a (codes (seconds b a l) ++ r) = some (l, r) := by
  induction l generalizing b a with
  | nil => simp [reads, seconds, codes]
  | cons x l ih =>
    simp only [List.length_cons, reads, seconds, codes, List.flatMap_cons, List.append_assoc]
    rw [parse_code (wrap_I64 _)]
    have hx := h x (by simp)
    have hw : wrap64 (wrap64 (x - 2 * a + b) + 2 * a - b) = x := by
      rw [show x = wrap64 x from (wrap_of hx).symm]; unfold wrap64; omega
    simp only [hw]
    have := ih a x (fun y hy => h y (by simp [hy]))
    unfold codes at this
    rw [this]; rfl

theorem padded_iff {s r : List Bool} {bs : List Nat} (hb : Bytes bs) (h : bitsOf bs = s ++ r) : padded r ↔ pack s = bs := by
  have hl : 8 * bs.length = s.length + r.length := by rw [← bitsOf_length, h, List.length_append]
  constructor
  · rintro ⟨h8, hz⟩
    apply bitsOf_inj (pack_bytes s) hb
    rw [bitsOf_pack, h]
    congr 1
    unfold pad
    have hn : 8 * ((s.length + 7) / 8) - s.length = r.length := by omega
    rw [hn]
    exact (List.eq_replicate_iff.2 ⟨rfl, hz⟩).symm
  · rintro rfl
    rw [bitsOf_pack] at h
    have := List.append_cancel_left h
    rw [← this]
    unfold pad padded
    refine ⟨by rw [List.length_replicate]; omega, fun b hb => List.eq_of_mem_replicate hb⟩

theorem readInts_eq_ref (bs : List Nat) (hb : Bytes bs) : readInts bs = refReadInts bs := by
  unfold readInts refReadInts
  cases hp : parse (bitsOf bs) with
  | none => rfl
  | some p =>
    obtain ⟨n, t⟩ := p
    simp only
    obtain ⟨hs, hn⟩ := code_parse hp
    have hlen := parse_length hp
    by_cases h0 : n < 0
    · rw [if_pos h0, if_pos (.inl h0)]
    · rw [if_neg h0]
      unfold finInts finRef
      cases hr : reads n.toNat 0 0 t with
      | none =>
        simp only
        split <;> rfl
      | some q =>
        obtain ⟨l, r⟩ := q
        obtain ⟨e1, e2, e3, e4⟩ := reads_some hr
        rw [if_neg (by omega)]
        simp only
        have hnl : n = (l.length : Int) := by omega
        have hi : bitsOf bs = ints l ++ r := by
          rw [hs, e1]; unfold ints; rw [hnl, List.append_assoc]
        have := padded_iff hb hi
        by_cases hq : padded r
        · rw [if_pos hq, if_pos (this.1 hq)]
        · rw [if_neg hq, if_neg (fun h => hq (this.2 h))]

theorem readInts_ints (l : List Int) (h : ∀ x ∈ l, I64 x) (hl : l.length ≤ 9223372036854775807) : readInts (pack (ints l)) = some l := by
  unfold readInts
  rw [bitsOf_pack, ints, List.append_assoc, parse_code (by unfold I64; omega)]
  simp only
  rw [if_neg (by omega), Int.toNat_natCast]
  unfold finInts
  rw [reads_ints l 0 0 h]
  simp only
  rw [if_pos]
  unfold padded pad
  exact ⟨by rw [List.length_replicate]; omega, fun b hb => List.eq_of_mem_replicate hb⟩
end Go.Proofs.YtgkmfblmkfclbaaGreatDoor.Pl
