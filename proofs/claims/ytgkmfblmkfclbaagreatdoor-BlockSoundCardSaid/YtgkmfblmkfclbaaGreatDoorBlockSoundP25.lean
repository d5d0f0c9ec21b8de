/- A number stored into a row; envelope.source. Envelopes in plain words: small laws for the walks. Envelopes in plain words: the two passes close the bounds; what is implied by closed bounds stays so. Envelopes in plain words: without a clash the bounds that New returns are closed. Envelopes in plain words: claims that old bounds imply give bounds that contain the old ones. -/
import Derived.Test.YtgkmfblmkfclbaaGreatDoorBlockSoundP23
import Derived.Test.YtgkmfblmkfclbaaGreatDoorBlockSoundP24
import Derived.Test.YtgkmfblmkfclbaaGreatDoorBlockSoundP12
namespace Go.Proofs.YtgkmfblmkfclbaaGreatDoor
open Go.RowKit Pl

section
variable {P : Program} {w : World} {base : Nat} {e : TypeId} {xs : List Value} {g m c : Nat} {ops : Array Oper} {rest : List Oper} {o : Oper} {a : Act} {Q : Exit → Act → World → Prop}
theorem Mine.cell_at (h : Mine w base e (.slice (some ⟨g, 0, none⟩) m c) xs) {k : Nat} (hk : k < xs.length) : w.cell? ⟨g, k, none⟩ = some xs[k] ∧ w.frozen? ⟨g, k, none⟩ = false := by
  rcases h.form with ⟨hv, _⟩ | ⟨g', cap, cur, hv, _, hbox, _, _, _, h4⟩
  · cases hv
  · injection hv with hv1 hv2 hv3
    injection hv1 with hv1
    injection hv1 with hv1
    subst hv1
    refine ⟨?_, hbox.frozen k⟩
    rw [hbox.cell, ← Array.getElem?_toList, ← List.getElem?_eq_getElem hk, ← h4, List.getElem?_take, if_pos hk]
theorem st_row (x y : Operand) (k : Nat) (n : Int) (hgd : o.guard = none) (ho : o.op = .store 3 x y)
    (hx : a.eval x = .pointer (some ⟨g, k, none⟩)) (hy : a.eval y = .int .i64 n) (hM : Mine w base 3 (.slice (some ⟨g, 0, none⟩) m c) xs) (hk : k < xs.length)
    (h : ∀ w', Mine w' base 3 (.slice (some ⟨g, 0, none⟩) m c) (xs.set k (.int .i64 n)) → Keeps (fun i => i = g) w w' → wpList Tryz.prog ops Q rest (a.put o.dst undef) w') : wpList Tryz.prog ops Q (o :: rest) a w := by
  obtain ⟨hc, hf⟩ := hM.cell_at hk
  have hm := hM.store (g := g) rfl hk (.int .i64 n)
  have hk' : Keeps (fun i => i = g) w (w.setCell ⟨g, k, none⟩ (.int .i64 n)) := (Keeps.refl (fun i => i = g) w).setCell (p := ⟨g, k, none⟩) (.inl rfl) _
  refine wpList_plain hgd fun K hK => ?_
  unfold Oper.wp execOp
  simp only [ho, hx, hy]
  go_simp
  exact hK _ _ (h _ hm hk')
theorem results_cellN {fn : Func} {p : Tmp} {ty : TypeId} (h : fn.results = #[.cell p ty]) {tmps : Array Value} {w : World} {g : Nat} {vs : List Value} {t : TypeId} (hp : tmps.getD p undef = .pointer (some ⟨g, 0, none⟩)) (hT : (Tryz.prog.info? ty).map (·.size) = some vs.length) {d : TypeDesc} (hu : Tryz.prog.underlying ty = some d) (hd : d.isRow = true) (hb : Box w g t vs.toArray) :
    (results fn tmps).run Tryz.prog w = .ok (.agg vs.toArray) w := by
  have hl := run_loadVar_mid (P := Tryz.prog) w g 0 ty vs d (hb.rangeN 0 vs (by simp)) hu hd hT
  simp only [results, h]
  rw [Array.getD_eq_getD_getElem?] at hp
  simp [hp, hl, asAddr]
end

/- the declared range as a claim, and a claim of the list -/
set_option maxHeartbeats 3200000 in
theorem source0_any (nm : ByteArray) (A : Option Addr) (n c : Nat) (x : Fin 10 → Int) (B : Option Addr) (m q : Nat) (w : World) :
    Calls Tryz.prog 50 #[vdecl nm (.slice A n c) x, .slice B m q, .int .i64 (-1)] w fun e w' => e = .returned (vc (claim0 x)) ∧ Grew w w' := by
  have HB := Lib.hid ((Box.new w 27 (cells12 nm (.slice A n c) x).toArray).alloc (.cells #[.int .i64 0, .int .i64 0, .int .i64 0, .int .i64 0] 82))
  have hN : Box ((w.alloc (.cells (cells12 nm (.slice A n c) x).toArray 27)).alloc (.cells #[.int .i64 0, .int .i64 0, .int .i64 0, .int .i64 0] 82)) (w.alloc (.cells (cells12 nm (.slice A n c) x).toArray 27)).heap.size 82 (cells4 zc).toArray := Box.new _ _ _
  have HG := Lib.hid (((Grew.refl w).alloc (.cells (cells12 nm (.slice A n c) x).toArray 27)).alloc (.cells #[.int .i64 0, .int .i64 0, .int .i64 0, .int .i64 0] 82))
  rw [World.size_alloc] at hN
  have HN := Lib.hid hN
  clear hN
  rw [vdecl_cells]
  go_enter Tryz.func50, Tryz.ntmps50
  go_upto_region 1 with fail
  generalize (w.alloc (.cells (cells12 nm (.slice A n c) x).toArray 27)).alloc (.cells #[.int .i64 0, .int .i64 0, .int .i64 0, .int .i64 0] 82) = w1 at *
  have hb := HB.out
  have c3 : w1.cell? ⟨w.heap.size, 5, none⟩ = some (.int .i64 (x 3)) := hb.cell 5
  have c4 : w1.cell? ⟨w.heap.size, 6, none⟩ = some (.int .i64 (x 4)) := hb.cell 6
  have c7 : w1.cell? ⟨w.heap.size, 9, none⟩ = some (.int .i64 (x 7)) := hb.cell 9
  have c8 : w1.cell? ⟨w.heap.size, 10, none⟩ = some (.int .i64 (x 8)) := hb.cell 10
  clear hb HB
  go_wp2_with (first | ((refine stN 82 (.tmp 6) (.tmp 17) (w.heap.size + 1) (cells4 (claim0 x)) (cells4 zc) 82 info4 rfl (by intro v hv; simp [cells4] at hv; rcases hv with rfl | rfl | rfl | rfl <;> rfl) rfl rfl rfl rfl HN.out ?_); intro w2 bx2 k2 d2))
  refine bodyPost_ret (v := vc (claim0 x)) (results_cellN rfl rfl info4 Tryz.underlying82 rfl bx2) rfl ⟨rfl, Keeps.then_ HG.out k2 (fun i hi e => by omega)⟩
set_option maxHeartbeats 3200000 in
theorem sourceK_any (nm : ByteArray) (A : Option Addr) (n c : Nat) (x : Fin 10 → Int) (v : Value) (cs : List Clm) (j : Nat) (w : World) (hj : j < cs.length) (hr : RdC w w.heap.size v cs) (_ : cs.length ≤ 1000000) :
    Calls Tryz.prog 50 #[vdecl nm (.slice A n c) x, v, .int .i64 (j : Nat)] w fun e w' => e = .returned (vc (cs.getD j zc)) ∧ Grew w w' := by
  have hN : Box ((w.alloc (.cells (cells12 nm (.slice A n c) x).toArray 27)).alloc (.cells #[.int .i64 0, .int .i64 0, .int .i64 0, .int .i64 0] 82)) (w.alloc (.cells (cells12 nm (.slice A n c) x).toArray 27)).heap.size 82 (cells4 zc).toArray := Box.new _ _ _
  have hG := ((Grew.refl w).alloc (.cells (cells12 nm (.slice A n c) x).toArray 27)).alloc (.cells #[.int .i64 0, .int .i64 0, .int .i64 0, .int .i64 0] 82)
  have HG := Lib.hid hG
  rw [World.size_alloc] at hN
  have HN := Lib.hid hN
  clear hN
  have hr1 := hr.grew (Nat.le_refl _) hG
  obtain ⟨B, m, q, rfl, hm, hq⟩ := hr.form
  obtain ⟨g, o, rfl, hgl, hce⟩ := hr1.at_ hj
  generalize cs.getD j zc = d at *
  have hrg : ((w.alloc (.cells (cells12 nm (.slice A n c) x).toArray 27)).alloc (.cells #[.int .i64 0, .int .i64 0, .int .i64 0, .int .i64 0] 82)).rangeAt g (o + j * 4) (cells4 d) := fun k u hu => by rw [Nat.add_assoc]; exact hce k u hu
  have HRg := Lib.hid hrg
  clear hrg
  clear hce
  have hjm : j < m := by omega
  have HM := Lib.hid hm
  have t0 : decide ((j : Int) < 0) = false := by simp
  clear hr hr1 hm hG hj
  rw [vdecl_cells]
  go_enter Tryz.func50, Tryz.ntmps50
  go_upto_region 1 with fail
  generalize (w.alloc (.cells (cells12 nm (.slice A n c) x).toArray 27)).alloc (.cells #[.int .i64 0, .int .i64 0, .int .i64 0, .int .i64 0] 82) = w1 at *
  go_wp2_with (first | (refine wpList_load_mid rfl 82 (.tmp 20) rfl g (o + j * 4) rfl (cells4 d) _ HRg.out Tryz.underlying82 rfl info4 ?_) | (refine stN 82 (.tmp 6) (.tmp 21) (w.heap.size + 1) (cells4 d) (cells4 zc) 82 info4 rfl (by intro v hv; simp [cells4] at hv; rcases hv with rfl | rfl | rfl | rfl <;> rfl) rfl rfl rfl rfl HN.out ?_; intro w2 bx2 k2 d2))
  refine bodyPost_ret (v := vc d) (results_cellN rfl rfl info4 Tryz.underlying82 rfl bx2) rfl ⟨rfl, Keeps.then_ HG.out k2 (fun i hi e => by omega)⟩
end Go.Proofs.YtgkmfblmkfclbaaGreatDoor
namespace Go.Proofs.YtgkmfblmkfclbaaGreatDoor
open Go.RowKit Pl

theorem max_if (a b : Int) : (if a < b then b else a) = max a b := by omega
theorem min_if (a b : Int) : (if b < a then b else a) = min a b := by omega
theorem takeIn_snoc (f : Int) (cs : List Clm) (k : Nat) (e : EnvL) (hk : k < cs.length) : takeIn f (cs.take (k + 1)) e = applyC f (takeIn f (cs.take k) e) (cs.getD k zc) := by
  unfold takeIn
  rw [List.take_add_one, List.getElem?_eq_getElem hk, List.foldl_append, List.getD_eq_getElem?_getD, List.getElem?_eq_getElem hk]
  rfl
theorem range'_snoc (a t : Nat) (h : a ≤ t) : List.range' a (t + 1 - a) = List.range' a (t - a) ++ [t] := by
  rw [show t + 1 - a = (t - a) + 1 by omega, List.range'_concat]
  congr 2
  omega
theorem rev_snoc {M s : Nat} (h : s < M) : (List.range M).reverse.take (M - s) = (List.range M).reverse.take (M - (s + 1)) ++ [s] := by
  rw [show M - s = (M - (s + 1)) + 1 by omega, List.take_add_one]
  congr 1
  rw [List.getElem?_reverse (by simp; omega)]
  simp only [List.length_range]
  rw [List.getElem?_range (by omega)]
  simp; omega
end Go.Proofs.YtgkmfblmkfclbaaGreatDoor
namespace Go.Proofs.YtgkmfblmkfclbaaGreatDoor
open Go.RowKit Pl

theorem wrap_small {n : Int} (h1 : -9000000000000000 ≤ n) (h2 : n ≤ 9000000000000000) : wrap64 n = n := by
  unfold wrap64; omega
/- bounds that follow from their neighbours -/
structure Closed (dn up : Int) (n : Nat) (E : EnvL) : Prop where
  lo1 : ∀ j, j + 1 < n → E.1.getD j 0 + dn ≤ E.1.getD (j + 1) 0
  lo2 : ∀ j, j + 1 < n → E.1.getD (j + 1) 0 - up ≤ E.1.getD j 0
  hi1 : ∀ j, j + 1 < n → E.2.getD (j + 1) 0 ≤ E.2.getD j 0 + up
  hi2 : ∀ j, j + 1 < n → E.2.getD j 0 ≤ E.2.getD (j + 1) 0 - dn
/- bounds that contain others, all small -/
structure Cont (n : Nat) (E e : EnvL) : Prop where
  len1 : e.1.length = n
  len2 : e.2.length = n
  lo : ∀ j, j < n → -4000000000000000 ≤ e.1.getD j 0 ∧ e.1.getD j 0 ≤ E.1.getD j 0
  hi : ∀ j, j < n → E.2.getD j 0 ≤ e.2.getD j 0 ∧ e.2.getD j 0 ≤ 4000000000000000
theorem getD_set (l : List Int) (i j : Nat) (y : Int) : (l.set i y).getD j 0 = if i = j ∧ j < l.length then y else l.getD j 0 := by
  rw [List.getD_eq_getElem?_getD, List.getElem?_set, List.getD_eq_getElem?_getD]
  by_cases h : i = j
  · subst h
    by_cases h2 : i < l.length <;> simp [h2]
  · simp [h]
theorem Cont.stepF {dn up : Int} {n : Nat} {E e : EnvL} (h : Cont n E e) (hE : Closed dn up n E) (hb : ∀ j, j < n → E.1.getD j 0 ≤ 4000000000000000 ∧ -4000000000000000 ≤ E.2.getD j 0) (hd : -1048576 ≤ dn) (hd2 : dn ≤ 1048576) (hu : -1048576 ≤ up) (hu2 : up ≤ 1048576) {j : Nat} (h1 : 1 ≤ j) (h2 : j < n) : Cont n E (stepF dn up e j) := by
  obtain ⟨i, rfl⟩ : ∃ i, j = i + 1 := ⟨j - 1, by omega⟩
  have a := h.lo i (by omega)
  have b := h.hi i (by omega)
  have a2 := h.lo (i + 1) h2
  have b2 := h.hi (i + 1) h2
  have c := hb i (by omega)
  have c1 := hE.lo1 i h2
  have c2 := hE.hi1 i h2
  have w1 := wrap_small (n := e.1.getD i 0 + dn) (by omega) (by omega)
  have w2 := wrap_small (n := e.2.getD i 0 + up) (by omega) (by omega)
  refine ⟨by simp [Go.Proofs.YtgkmfblmkfclbaaGreatDoor.stepF, h.len1], by simp [Go.Proofs.YtgkmfblmkfclbaaGreatDoor.stepF, h.len2], fun j hj => ?_, fun j hj => ?_⟩
  · have := h.lo j hj
    simp only [Go.Proofs.YtgkmfblmkfclbaaGreatDoor.stepF, getD_set, Nat.add_sub_cancel, w1]
    split
    · rename_i hh
      obtain ⟨rfl, _⟩ := hh
      omega
    · exact this
  · have := h.hi j hj
    simp only [Go.Proofs.YtgkmfblmkfclbaaGreatDoor.stepF, getD_set, Nat.add_sub_cancel, w2]
    split
    · rename_i hh
      obtain ⟨rfl, _⟩ := hh
      omega
    · exact this
theorem Cont.stepB {dn up : Int} {n : Nat} {E e : EnvL} (h : Cont n E e) (hE : Closed dn up n E) (hb : ∀ j, j < n → E.1.getD j 0 ≤ 4000000000000000 ∧ -4000000000000000 ≤ E.2.getD j 0) (hd : -1048576 ≤ dn) (hd2 : dn ≤ 1048576) (hu : -1048576 ≤ up) (hu2 : up ≤ 1048576) {i : Nat} (h2 : i + 1 < n) : Cont n E (stepB dn up e i) := by
  have a := h.lo (i + 1) h2
  have b := h.hi (i + 1) h2
  have a2 := h.lo i (by omega)
  have b2 := h.hi i (by omega)
  have c := hb (i + 1) h2
  have c1 := hE.lo2 i h2
  have c2 := hE.hi2 i h2
  have w1 := wrap_small (n := e.1.getD (i + 1) 0 - up) (by omega) (by omega)
  have w2 := wrap_small (n := e.2.getD (i + 1) 0 - dn) (by omega) (by omega)
  refine ⟨by simp [Go.Proofs.YtgkmfblmkfclbaaGreatDoor.stepB, h.len1], by simp [Go.Proofs.YtgkmfblmkfclbaaGreatDoor.stepB, h.len2], fun j hj => ?_, fun j hj => ?_⟩
  · have := h.lo j hj
    simp only [Go.Proofs.YtgkmfblmkfclbaaGreatDoor.stepB, getD_set, w1]
    split
    · rename_i hh
      obtain ⟨rfl, _⟩ := hh
      omega
    · exact this
  · have := h.hi j hj
    simp only [Go.Proofs.YtgkmfblmkfclbaaGreatDoor.stepB, getD_set, w2]
    split
    · rename_i hh
      obtain ⟨rfl, _⟩ := hh
      omega
    · exact this
/- what closed bounds imply stays within them through the passes -/
theorem Cont.passes {dn up : Int} {n : Nat} {E e : EnvL} (h : Cont n E e) (hE : Closed dn up n E) (hb : ∀ j, j < n → E.1.getD j 0 ≤ 4000000000000000 ∧ -4000000000000000 ≤ E.2.getD j 0) (hd : -1048576 ≤ dn) (hd2 : dn ≤ 1048576) (hu : -1048576 ≤ up) (hu2 : up ≤ 1048576) : Cont n E (passB dn up n (passF dn up n e)) := by
  have fold : ∀ (st : EnvL → Nat → EnvL) (ts : List Nat) (e : EnvL), (∀ e t, t ∈ ts → Cont n E e → Cont n E (st e t)) → Cont n E e → Cont n E (ts.foldl st e) := by
    intro st ts
    induction ts with
    | nil => exact fun e _ h => h
    | cons t ts ih => exact fun e hs h => ih _ (fun e t ht => hs e t (List.mem_cons_of_mem _ ht)) (hs e t List.mem_cons_self h)
  unfold passB passF
  refine fold _ _ _ (fun e t ht hc => ?_) (fold _ _ _ (fun e t ht hc => ?_) h)
  · rw [List.mem_reverse, List.mem_range] at ht
    exact hc.stepB hE hb hd hd2 hu hu2 (by omega)
  · rw [List.mem_range'_1] at ht
    exact hc.stepF hE hb hd hd2 hu hu2 (by omega) (by omega)
end Go.Proofs.YtgkmfblmkfclbaaGreatDoor
namespace Go.Proofs.YtgkmfblmkfclbaaGreatDoor
open Go.RowKit Pl

/- one row of bounds, forth and back -/
def forth (g : Int → Int → Int) (l : List Int) (k : Nat) : List Int := (List.range' 1 k).foldl (fun l j => l.set j (g (l.getD j 0) (l.getD (j - 1) 0))) l
def back (g : Int → Int → Int) (l : List Int) (ts : List Nat) : List Int := ts.foldl (fun l i => l.set i (g (l.getD i 0) (l.getD (i + 1) 0))) l
theorem passF_eq (dn up : Int) (n : Nat) (e : EnvL) : passF dn up n e = (forth (fun a p => max a (wrap64 (p + dn))) e.1 (n - 1), forth (fun a p => min a (wrap64 (p + up))) e.2 (n - 1)) := by
  unfold passF forth
  generalize List.range' 1 (n - 1) = ts
  induction ts generalizing e with
  | nil => rfl
  | cons t ts ih => rw [List.foldl_cons, List.foldl_cons, List.foldl_cons, ih]; rfl
theorem passB_eq (dn up : Int) (n : Nat) (e : EnvL) : passB dn up n e = (back (fun a p => max a (wrap64 (p - up))) e.1 (List.range (n - 1)).reverse, back (fun a p => min a (wrap64 (p - dn))) e.2 (List.range (n - 1)).reverse) := by
  unfold passB back
  generalize (List.range (n - 1)).reverse = ts
  induction ts generalizing e with
  | nil => rfl
  | cons t ts ih => rw [List.foldl_cons, List.foldl_cons, List.foldl_cons, ih]; rfl
theorem forth_snoc (g : Int → Int → Int) (l : List Int) (k : Nat) : forth g l (k + 1) = (forth g l k).set (k + 1) (g ((forth g l k).getD (k + 1) 0) ((forth g l k).getD k 0)) := by
  unfold forth
  rw [List.range'_concat, List.foldl_append]
  simp [Nat.add_comm 1 k]
theorem forth_len (g : Int → Int → Int) (l : List Int) (k : Nat) : (forth g l k).length = l.length := by
  induction k with
  | zero => rfl
  | succ k ih => rw [forth_snoc, List.length_set, ih]
theorem forth_at (g : Int → Int → Int) (l : List Int) : ∀ (k : Nat), k < l.length → (∀ j, k < j → (forth g l k).getD j 0 = l.getD j 0) ∧ (forth g l k).getD 0 0 = l.getD 0 0 ∧ (∀ j, j + 1 ≤ k → (forth g l k).getD (j + 1) 0 = g (l.getD (j + 1) 0) ((forth g l k).getD j 0))
  | 0, _ => ⟨fun _ _ => rfl, rfl, fun j hj => by omega⟩
  | k + 1, hk => by
    obtain ⟨i1, i2, i3⟩ := forth_at g l k (by omega)
    have hl := forth_len g l k
    refine ⟨fun j hj => ?_, ?_, fun j hj => ?_⟩
    · rw [forth_snoc, getD_set, if_neg (by omega)]
      exact i1 j (by omega)
    · rw [forth_snoc, getD_set, if_neg (by omega)]
      exact i2
    · rw [forth_snoc, getD_set, getD_set]
      by_cases h : j = k
      · subst h
        rw [if_pos ⟨rfl, by omega⟩, if_neg (by omega), i1 _ (by omega)]
      · rw [if_neg (by omega), if_neg (by omega)]
        exact i3 j (by omega)
theorem back_len (g : Int → Int → Int) (ts : List Nat) : ∀ (l : List Int), (back g l ts).length = l.length := by
  unfold back
  induction ts with
  | nil => exact fun _ => rfl
  | cons t ts ih => intro l; rw [List.foldl_cons, ih]; simp
/- back from the end to s: s .. are done -/
theorem back_at (g : Int → Int → Int) (l : List Int) (m : Nat) (hm : m < l.length) : ∀ (d s : Nat), s + d = m →
    (∀ j, j < s → (back g l ((List.range m).reverse.take d)).getD j 0 = l.getD j 0) ∧ (back g l ((List.range m).reverse.take d)).getD m 0 = l.getD m 0 ∧ (∀ j, s ≤ j → j < m → (back g l ((List.range m).reverse.take d)).getD j 0 = g (l.getD j 0) ((back g l ((List.range m).reverse.take d)).getD (j + 1) 0))
  | 0, s, h => ⟨fun _ _ => by simp [back], by simp [back], fun j h1 h2 => by omega⟩
  | d + 1, s, h => by
    obtain ⟨i1, i2, i3⟩ := back_at g l m hm d (s + 1) (by omega)
    have hl := back_len g ((List.range m).reverse.take d) l
    have e : (List.range m).reverse.take (d + 1) = (List.range m).reverse.take d ++ [s] := by
      have := rev_snoc (M := m) (s := s) (by omega)
      rwa [show m - s = d + 1 by omega, show m - (s + 1) = d by omega] at this
    have eb : back g l ((List.range m).reverse.take (d + 1)) = (back g l ((List.range m).reverse.take d)).set s (g ((back g l ((List.range m).reverse.take d)).getD s 0) ((back g l ((List.range m).reverse.take d)).getD (s + 1) 0)) := by
      rw [e]; unfold back; rw [List.foldl_append]; rfl
    rw [eb]
    refine ⟨fun j hj => ?_, ?_, fun j h1 h2 => ?_⟩
    · rw [getD_set, if_neg (by omega)]
      exact i1 j (by omega)
    · rw [getD_set, if_neg (by omega)]
      exact i2
    · rw [getD_set, getD_set]
      by_cases h3 : s = j
      · subst h3
        rw [if_pos ⟨rfl, by omega⟩, if_neg (by omega), i1 s (by omega)]
      · rw [if_neg (by omega), if_neg (by omega)]
        exact i3 j (by omega) h2
theorem back_all (g : Int → Int → Int) (l : List Int) (m : Nat) (hm : m < l.length) : (back g l (List.range m).reverse).getD m 0 = l.getD m 0 ∧ (∀ j, j < m → (back g l (List.range m).reverse).getD j 0 = g (l.getD j 0) ((back g l (List.range m).reverse).getD (j + 1) 0)) := by
  have := back_at g l m hm m 0 (by omega)
  rw [List.take_of_length_le (by simp)] at this
  exact ⟨this.2.1, fun j hj => this.2.2 j (by omega) hj⟩
theorem passes_closed {dn up : Int} {n : Nat} {e : EnvL} (h1 : e.1.length = n) (h2 : e.2.length = n) (hn : 1 ≤ n) (hlo : ∀ j, j < n → -4000000000000000 ≤ e.1.getD j 0) (hhi : ∀ j, j < n → e.2.getD j 0 ≤ 4000000000000000) (hd : -1048576 ≤ dn) (hdu : dn ≤ up) (hu2 : up ≤ 1048576)
    (hc : ∀ j, j < n → (passB dn up n (passF dn up n e)).1.getD j 0 ≤ (passB dn up n (passF dn up n e)).2.getD j 0) :
    Closed dn up n (passB dn up n (passF dn up n e)) ∧ ∀ j, j < n → e.1.getD j 0 ≤ (passB dn up n (passF dn up n e)).1.getD j 0 ∧ (passB dn up n (passF dn up n e)).2.getD j 0 ≤ e.2.getD j 0 := by
  rw [passB_eq, passF_eq] at *
  generalize hL : forth (fun a p => max a (wrap64 (p + dn))) e.1 (n - 1) = L at *
  generalize hH : forth (fun a p => min a (wrap64 (p + up))) e.2 (n - 1) = H at *
  have lL : L.length = n := by rw [← hL, forth_len, h1]
  have lH : H.length = n := by rw [← hH, forth_len, h2]
  obtain ⟨-, fl0, fl⟩ := forth_at (fun a p => max a (wrap64 (p + dn))) e.1 (n - 1) (by omega)
  obtain ⟨-, fh0, fh⟩ := forth_at (fun a p => min a (wrap64 (p + up))) e.2 (n - 1) (by omega)
  obtain ⟨bl0, bl⟩ := back_all (fun a p => max a (wrap64 (p - up))) L (n - 1) (by omega)
  obtain ⟨bh0, bh⟩ := back_all (fun a p => min a (wrap64 (p - dn))) H (n - 1) (by omega)
  rw [hL] at fl0 fl
  rw [hH] at fh0 fh
  generalize back (fun a p => max a (wrap64 (p - up))) L (List.range (n - 1)).reverse = R at *
  generalize back (fun a p => min a (wrap64 (p - dn))) H (List.range (n - 1)).reverse = S at *
  try simp only at fl
  try simp only at fh
  try simp only at bl
  try simp only at bh
  have hc : ∀ j, j < n → R.getD j 0 ≤ S.getD j 0 := hc
  have a1 : ∀ j, j < n → e.1.getD j 0 ≤ L.getD j 0 := fun j hj => by
    rcases j with _ | j
    · omega
    · rw [fl j (by omega)]; omega
  have a2 : ∀ j, j < n → L.getD j 0 ≤ R.getD j 0 := fun j hj => by
    by_cases h : j < n - 1
    · rw [bl j h]; omega
    · obtain rfl : j = n - 1 := by omega
      omega
  have a3 : ∀ j, j < n → H.getD j 0 ≤ e.2.getD j 0 := fun j hj => by
    rcases j with _ | j
    · omega
    · rw [fh j (by omega)]; omega
  have a4 : ∀ j, j < n → S.getD j 0 ≤ H.getD j 0 := fun j hj => by
    by_cases h : j < n - 1
    · rw [bh j h]; omega
    · obtain rfl : j = n - 1 := by omega
      omega
  refine ⟨⟨fun j hj => (show R.getD j 0 + dn ≤ R.getD (j + 1) 0 from ?_), fun j hj => (show R.getD (j + 1) 0 - up ≤ R.getD j 0 from ?_), fun j hj => (show S.getD (j + 1) 0 ≤ S.getD j 0 + up from ?_), fun j hj => (show S.getD j 0 ≤ S.getD (j + 1) 0 - dn from ?_)⟩, fun j hj => ⟨Int.le_trans (a1 j hj) (a2 j hj), Int.le_trans (a4 j hj) (a3 j hj)⟩⟩
  all_goals
    have p1 := a1 j (by omega)
    have p2 := a2 j (by omega)
    have p3 := a3 j (by omega)
    have p4 := a4 j (by omega)
    have p5 := hlo j (by omega)
    have p6 := hhi j (by omega)
    have p7 := hc j (by omega)
    have q1 := a1 (j + 1) hj
    have q2 := a2 (j + 1) hj
    have q3 := a3 (j + 1) hj
    have q4 := a4 (j + 1) hj
    have q5 := hlo (j + 1) hj
    have q6 := hhi (j + 1) hj
    have q7 := hc (j + 1) hj
    have f1 := fl j (by omega)
    have f2 := fh j (by omega)
    have g1 := bl j (by omega)
    have g2 := bh j (by omega)
    rw [wrap_small (by omega) (by omega)] at f1 f2 g1 g2
    omega
end Go.Proofs.YtgkmfblmkfclbaaGreatDoor
namespace Go.Proofs.YtgkmfblmkfclbaaGreatDoor
open Go.RowKit Pl

def Implied (f : Int) (n : Nat) (E : EnvL) (c : Clm) : Prop := ∀ j ∈ ticks f c, j < n → c.2.2.1 ≤ E.1.getD j 0 ∧ E.2.getD j 0 ≤ c.2.2.2
theorem Cont.applyC {f : Int} {n : Nat} {E e : EnvL} {c : Clm} (h : Cont n E e) (hI : Implied f n E c) (h1 : -4000000000000000 ≤ c.2.2.1) (h2 : c.2.2.2 ≤ 4000000000000000) : Cont n E (applyC f e c) := by
  have hl := applyC_len f e c
  refine ⟨by rw [hl.1, h.len1], by rw [hl.2, h.len2], fun j hj => ?_, fun j hj => ?_⟩
  · have a := h.lo j hj
    have b := (foldC_at c _ (ticks_nodup f c) e j).1 (by rw [h.len1]; exact hj)
    unfold Go.Proofs.YtgkmfblmkfclbaaGreatDoor.applyC
    rw [b]
    split
    · rename_i hm
      have := (hI j hm hj).1
      omega
    · exact a
  · have a := h.hi j hj
    have b := (foldC_at c _ (ticks_nodup f c) e j).2 (by rw [h.len2]; exact hj)
    unfold Go.Proofs.YtgkmfblmkfclbaaGreatDoor.applyC
    rw [b]
    split
    · rename_i hm
      have := (hI j hm hj).2
      omega
    · exact a
theorem Cont.takeIn {f : Int} {n : Nat} {E : EnvL} : ∀ (cs : List Clm) (e : EnvL), Cont n E e → (∀ c ∈ cs, Implied f n E c ∧ -4000000000000000 ≤ c.2.2.1 ∧ c.2.2.2 ≤ 4000000000000000) → Cont n E (takeIn f cs e)
  | [], _, h, _ => h
  | c :: cs, e, h, hc => by
    obtain ⟨a, b, d⟩ := hc c List.mem_cons_self
    exact Cont.takeIn cs _ (h.applyC a b d) (fun c' h' => hc c' (List.mem_cons_of_mem _ h'))
/- what is taken in bounds what comes out -/
theorem applyC_mono (f : Int) (e : EnvL) (c : Clm) (j : Nat) : (j < e.1.length → e.1.getD j 0 ≤ (applyC f e c).1.getD j 0) ∧ (j < e.2.length → (applyC f e c).2.getD j 0 ≤ e.2.getD j 0) := by
  obtain ⟨a, b⟩ := foldC_at c _ (ticks_nodup f c) e j
  unfold applyC
  refine ⟨fun h => ?_, fun h => ?_⟩
  · rw [a h]; split <;> omega
  · rw [b h]; split <;> omega
theorem takeIn_mono (f : Int) (j : Nat) : ∀ (cs : List Clm) (e : EnvL), (j < e.1.length → e.1.getD j 0 ≤ (takeIn f cs e).1.getD j 0) ∧ (j < e.2.length → (takeIn f cs e).2.getD j 0 ≤ e.2.getD j 0)
  | [], _ => ⟨fun _ => Int.le_refl _, fun _ => Int.le_refl _⟩
  | c :: cs, e => by
    obtain ⟨a, b⟩ := applyC_mono f e c j
    obtain ⟨a2, b2⟩ := takeIn_mono f j cs (applyC f e c)
    have hl := applyC_len f e c
    exact ⟨fun h => Int.le_trans (a h) (a2 (by rw [hl.1]; exact h)), fun h => Int.le_trans (b2 (by rw [hl.2]; exact h)) (b h)⟩
theorem takeIn_mem (f : Int) {c : Clm} {j : Nat} (hj : j ∈ ticks f c) : ∀ (cs : List Clm) (e : EnvL), c ∈ cs → (j < e.1.length → c.2.2.1 ≤ (takeIn f cs e).1.getD j 0) ∧ (j < e.2.length → (takeIn f cs e).2.getD j 0 ≤ c.2.2.2)
  | [], _, h => by simp at h
  | d :: cs, e, h => by
    have hl := applyC_len f e d
    rcases List.mem_cons.1 h with rfl | h
    · obtain ⟨a, b⟩ := foldC_at c _ (ticks_nodup f c) e j
      obtain ⟨a2, b2⟩ := takeIn_mono f j cs (applyC f e c)
      refine ⟨fun h1 => ?_, fun h1 => ?_⟩
      · have := a2 (by rw [hl.1]; exact h1)
        have e1 := a h1
        rw [if_pos hj] at e1
        unfold takeIn at *
        rw [List.foldl_cons]
        have e2 : (Go.Proofs.YtgkmfblmkfclbaaGreatDoor.applyC f e c).1.getD j 0 = max (e.1.getD j 0) c.2.2.1 := e1
        omega
      · have := b2 (by rw [hl.2]; exact h1)
        have e1 := b h1
        rw [if_pos hj] at e1
        unfold takeIn at *
        rw [List.foldl_cons]
        have e2 : (Go.Proofs.YtgkmfblmkfclbaaGreatDoor.applyC f e c).2.getD j 0 = min (e.2.getD j 0) c.2.2.2 := e1
        omega
    · obtain ⟨a, b⟩ := takeIn_mem f hj cs (applyC f e d) h
      exact ⟨fun h1 => a (by rw [hl.1]; exact h1), fun h1 => b (by rw [hl.2]; exact h1)⟩
end Go.Proofs.YtgkmfblmkfclbaaGreatDoor
