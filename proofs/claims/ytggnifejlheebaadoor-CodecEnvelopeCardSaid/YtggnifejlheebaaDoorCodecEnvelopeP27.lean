/- Envelopes in plain words: claims taken in one by one, two passes; the order of the claims does not count. A number stored into a row; envelope.source. Envelopes in plain words: small laws for the walks. The contract of math/bits.Mul, laid at this program. -/
import Derived.Test.YtggnifejlheebaaDoorCodecEnvelopeP15
import Derived.Test.YtggnifejlheebaaDoorCodecEnvelopeP26
import Derived.Test.YtggnifejlheebaaDoorCodecEnvelopeP25
import Derived.Test.YtggnifejlheebaaDoorCodecEnvelopeP19
import Derived.Shelf.Bits.Mul64
import Derived.Test.YtggnifejlheebaaDoorProg
namespace Go.Proofs.YtggnifejlheebaaDoor
open Go.RowKit Pl

abbrev EnvL := List Int × List Int
/- one tick of a claim -/
def stepC (c : Clm) (e : EnvL) (j : Nat) : EnvL := (e.1.set j (max (e.1.getD j 0) c.2.2.1), e.2.set j (min (e.2.getD j 0) c.2.2.2))
/- the ticks of a claim from the first to the last, counted from f on -/
def ticks (f : Int) (c : Clm) : List Nat := List.range' (c.1 - f).toNat (c.2.1 - c.1 + 1).toNat
def applyC (f : Int) (e : EnvL) (c : Clm) : EnvL := (ticks f c).foldl (stepC c) e
def takeIn (f : Int) (cs : List Clm) (e : EnvL) : EnvL := cs.foldl (applyC f) e
/- the change from tick to tick -/
def stepF (dn up : Int) (e : EnvL) (j : Nat) : EnvL := (e.1.set j (max (e.1.getD j 0) (wrap64 (e.1.getD (j - 1) 0 + dn))), e.2.set j (min (e.2.getD j 0) (wrap64 (e.2.getD (j - 1) 0 + up))))
def stepB (dn up : Int) (e : EnvL) (j : Nat) : EnvL := (e.1.set j (max (e.1.getD j 0) (wrap64 (e.1.getD (j + 1) 0 - up))), e.2.set j (min (e.2.getD j 0) (wrap64 (e.2.getD (j + 1) 0 - dn))))
def passF (dn up : Int) (n : Nat) (e : EnvL) : EnvL := (List.range' 1 (n - 1)).foldl (stepF dn up) e
def passB (dn up : Int) (n : Nat) (e : EnvL) : EnvL := (List.range (n - 1)).reverse.foldl (stepB dn up) e

theorem stepC_len (c : Clm) (e : EnvL) (j : Nat) : (stepC c e j).1.length = e.1.length ∧ (stepC c e j).2.length = e.2.length := by simp [stepC]
theorem foldC_len (c : Clm) (ts : List Nat) : ∀ e : EnvL, (ts.foldl (stepC c) e).1.length = e.1.length ∧ (ts.foldl (stepC c) e).2.length = e.2.length := by
  induction ts with
  | nil => exact fun e => ⟨rfl, rfl⟩
  | cons t ts ih => exact fun e => ⟨(ih _).1.trans (stepC_len c e t).1, (ih _).2.trans (stepC_len c e t).2⟩
theorem foldC_at (c : Clm) (ts : List Nat) (hd : ts.Nodup) : ∀ (e : EnvL) (j : Nat), (j < e.1.length → (ts.foldl (stepC c) e).1.getD j 0 = if j ∈ ts then max (e.1.getD j 0) c.2.2.1 else e.1.getD j 0) ∧ (j < e.2.length → (ts.foldl (stepC c) e).2.getD j 0 = if j ∈ ts then min (e.2.getD j 0) c.2.2.2 else e.2.getD j 0) := by
  induction ts with
  | nil => exact fun e j => ⟨fun _ => by simp, fun _ => by simp⟩
  | cons t ts ih =>
    intro e j
    obtain ⟨hn, hd'⟩ := List.nodup_cons.1 hd
    obtain ⟨i1, i2⟩ := ih hd' (stepC c e t) j
    rw [List.foldl_cons]
    refine ⟨fun h => ?_, fun h => ?_⟩
    · rw [i1 (by rw [(stepC_len c e t).1]; exact h)]
      by_cases hj : j = t
      · subst hj
        rw [if_neg hn, if_pos (by simp)]
        simp [stepC, List.getD_eq_getElem?_getD, List.getElem?_set_self h]
      · have e1 : (stepC c e t).1.getD j 0 = e.1.getD j 0 := by simp [stepC, List.getD_eq_getElem?_getD, List.getElem?_set_ne (Ne.symm hj)]
        rw [e1]
        by_cases hm : j ∈ ts
        · rw [if_pos hm, if_pos (by simp [hm])]
        · rw [if_neg hm, if_neg (by simp [hm, hj])]
    · rw [i2 (by rw [(stepC_len c e t).2]; exact h)]
      by_cases hj : j = t
      · subst hj
        rw [if_neg hn, if_pos (by simp)]
        simp [stepC, List.getD_eq_getElem?_getD, List.getElem?_set_self h]
      · have e1 : (stepC c e t).2.getD j 0 = e.2.getD j 0 := by simp [stepC, List.getD_eq_getElem?_getD, List.getElem?_set_ne (Ne.symm hj)]
        rw [e1]
        by_cases hm : j ∈ ts
        · rw [if_pos hm, if_pos (by simp [hm])]
        · rw [if_neg hm, if_neg (by simp [hm, hj])]
theorem ticks_nodup (f : Int) (c : Clm) : (ticks f c).Nodup := List.nodup_range'
theorem applyC_len (f : Int) (e : EnvL) (c : Clm) : (applyC f e c).1.length = e.1.length ∧ (applyC f e c).2.length = e.2.length := foldC_len c _ e
theorem takeIn_len (f : Int) (cs : List Clm) : ∀ e : EnvL, (takeIn f cs e).1.length = e.1.length ∧ (takeIn f cs e).2.length = e.2.length := by
  unfold takeIn
  induction cs with
  | nil => exact fun e => ⟨rfl, rfl⟩
  | cons c cs ih => exact fun e => ⟨(ih _).1.trans (applyC_len f e c).1, (ih _).2.trans (applyC_len f e c).2⟩
theorem list_ext {a b : List Int} (hl : a.length = b.length) (h : ∀ j, j < a.length → a.getD j 0 = b.getD j 0) : a = b := by
  apply List.ext_getElem hl
  intro j h1 h2
  have := h j h1
  simpa [List.getD_eq_getElem?_getD, List.getElem?_eq_getElem h1, List.getElem?_eq_getElem h2] using this
theorem applyC_comm (f : Int) (e : EnvL) (c d : Clm) : applyC f (applyC f e c) d = applyC f (applyC f e d) c := by
  have lc := applyC_len f e c
  have ld := applyC_len f e d
  have lcd := applyC_len f (applyC f e c) d
  have ldc := applyC_len f (applyC f e d) c
  apply Prod.ext
  · apply list_ext (by rw [lcd.1, ldc.1, lc.1, ld.1])
    intro j hj
    have hj0 : j < e.1.length := by rw [lcd.1, lc.1] at hj; exact hj
    have h1 := (foldC_at d _ (ticks_nodup f d) (applyC f e c) j).1 (by rw [lc.1]; exact hj0)
    have h2 := (foldC_at c _ (ticks_nodup f c) (applyC f e d) j).1 (by rw [ld.1]; exact hj0)
    have h3 := (foldC_at c _ (ticks_nodup f c) e j).1 hj0
    have h4 := (foldC_at d _ (ticks_nodup f d) e j).1 hj0
    unfold applyC at *
    rw [h1, h2, h3, h4]
    split <;> split <;> omega
  · apply list_ext (by rw [lcd.2, ldc.2, lc.2, ld.2])
    intro j hj
    have hj0 : j < e.2.length := by rw [lcd.2, lc.2] at hj; exact hj
    have h1 := (foldC_at d _ (ticks_nodup f d) (applyC f e c) j).2 (by rw [lc.2]; exact hj0)
    have h2 := (foldC_at c _ (ticks_nodup f c) (applyC f e d) j).2 (by rw [ld.2]; exact hj0)
    have h3 := (foldC_at c _ (ticks_nodup f c) e j).2 hj0
    have h4 := (foldC_at d _ (ticks_nodup f d) e j).2 hj0
    unfold applyC at *
    rw [h1, h2, h3, h4]
    split <;> split <;> omega
theorem takeIn_perm (f : Int) {cs ds : List Clm} (h : cs.Perm ds) (e : EnvL) : takeIn f cs e = takeIn f ds e := by
  unfold takeIn
  exact h.foldl_eq' (fun x _ y _ z => applyC_comm f z x y) e
/- the bands that the claims state; the bounds that they imply -/
def claim0 (x : Fin 10 → Int) : Clm := (x 7, x 8, x 3, x 4)
def bandE (x : Fin 10 → Int) (n : Nat) (cs : List Clm) : EnvL := takeIn (x 7) cs (List.replicate n (x 3), List.replicate n (x 4))
def boundE (x : Fin 10 → Int) (n : Nat) (cs : List Clm) : EnvL := passB (x 5) (x 6) n (passF (x 5) (x 6) n (takeIn (x 7) (claim0 x :: cs) (List.replicate n (-1125899906842624), List.replicate n 1125899906842624)))
def clashB (x : Fin 10 → Int) (n : Nat) (cs : List Clm) : Bool := crossB (bandE x n cs).1 (bandE x n cs).2 || crossB (boundE x n cs).1 (boundE x n cs).2
theorem bandE_perm (x : Fin 10 → Int) (n : Nat) {cs ds : List Clm} (h : cs.Perm ds) : bandE x n cs = bandE x n ds := takeIn_perm _ h _
theorem boundE_perm (x : Fin 10 → Int) (n : Nat) {cs ds : List Clm} (h : cs.Perm ds) : boundE x n cs = boundE x n ds := by
  unfold boundE; rw [takeIn_perm _ (h.cons (claim0 x))]
theorem clashB_perm (x : Fin 10 → Int) (n : Nat) {cs ds : List Clm} (h : cs.Perm ds) : clashB x n cs = clashB x n ds := by
  unfold clashB; rw [bandE_perm x n h, boundE_perm x n h]
/- lengths -/
theorem foldl_len {st : EnvL → Nat → EnvL} (hs : ∀ e j, (st e j).1.length = e.1.length ∧ (st e j).2.length = e.2.length) (ts : List Nat) : ∀ e : EnvL, (ts.foldl st e).1.length = e.1.length ∧ (ts.foldl st e).2.length = e.2.length := by
  induction ts with
  | nil => exact fun e => ⟨rfl, rfl⟩
  | cons t ts ih => exact fun e => ⟨(ih _).1.trans (hs e t).1, (ih _).2.trans (hs e t).2⟩
theorem stepF_len (dn up : Int) (e : EnvL) (j : Nat) : (stepF dn up e j).1.length = e.1.length ∧ (stepF dn up e j).2.length = e.2.length := by simp [stepF]
theorem stepB_len (dn up : Int) (e : EnvL) (j : Nat) : (stepB dn up e j).1.length = e.1.length ∧ (stepB dn up e j).2.length = e.2.length := by simp [stepB]
theorem bandE_len (x : Fin 10 → Int) (n : Nat) (cs : List Clm) : (bandE x n cs).1.length = n ∧ (bandE x n cs).2.length = n := by
  have := takeIn_len (x 7) cs (List.replicate n (x 3), List.replicate n (x 4))
  simpa [bandE] using this
theorem boundE_len (x : Fin 10 → Int) (n : Nat) (cs : List Clm) : (boundE x n cs).1.length = n ∧ (boundE x n cs).2.length = n := by
  have h1 := takeIn_len (x 7) (claim0 x :: cs) (List.replicate n (-1125899906842624), List.replicate n 1125899906842624)
  have h2 := foldl_len (stepF_len (x 5) (x 6)) (List.range' 1 (n - 1)) (takeIn (x 7) (claim0 x :: cs) (List.replicate n (-1125899906842624), List.replicate n 1125899906842624))
  have h3 := foldl_len (stepB_len (x 5) (x 6)) (List.range (n - 1)).reverse (passF (x 5) (x 6) n (takeIn (x 7) (claim0 x :: cs) (List.replicate n (-1125899906842624), List.replicate n 1125899906842624)))
  unfold boundE passB
  unfold passF at *
  refine ⟨by rw [h3.1, h2.1, h1.1]; simp, by rw [h3.2, h2.2, h1.2]; simp⟩
end Go.Proofs.YtggnifejlheebaaDoor
namespace Go.Proofs.YtggnifejlheebaaDoor
open Go.RowKit Pl

section
variable {P : Program} {w : World} {base : Nat} {e : TypeId} {xs : List Value} {g m c : Nat} {ops : Array Oper} {rest : List Oper} {o : Oper} {a : Act} {Q : Exit → Act → World → Prop}
theorem Mine.cell_at (h : Mine w base e (.slice (some ⟨g, 0, none⟩) m c) xs) {k : Nat} (hk : k < xs.length) : w.cell? ⟨g, k, none⟩ = some xs[k] ∧ w.frozen? ⟨g, k, none⟩ = false := by
  rcases h.form with ⟨hv, _⟩ | ⟨g', cap, cur, hv, _, hbox, _, _, _, h4⟩
  · cases hv
  · injection hv with hv1 hv2 hv3
    injection hv1 with hv1
    injection hv1 with hv1
    subst hv1
    refine ⟨?_, hbox.frozen k⟩
    rw [hbox.cell, ← Array.getElem?_toList, ← List.getElem?_eq_getElem hk, ← h4, List.getElem?_take, if_pos hk]
theorem st_row (x y : Operand) (k : Nat) (n : Int) (hgd : o.guard = none) (ho : o.op = .store 3 x y)
    (hx : a.eval x = .pointer (some ⟨g, k, none⟩)) (hy : a.eval y = .int .i64 n) (hM : Mine w base 3 (.slice (some ⟨g, 0, none⟩) m c) xs) (hk : k < xs.length)
    (h : ∀ w', Mine w' base 3 (.slice (some ⟨g, 0, none⟩) m c) (xs.set k (.int .i64 n)) → Keeps (fun i => i = g) w w' → wpList Tryd.prog ops Q rest (a.put o.dst undef) w') : wpList Tryd.prog ops Q (o :: rest) a w := by
  obtain ⟨hc, hf⟩ := hM.cell_at hk
  have hm := hM.store (g := g) rfl hk (.int .i64 n)
  have hk' : Keeps (fun i => i = g) w (w.setCell ⟨g, k, none⟩ (.int .i64 n)) := (Keeps.refl (fun i => i = g) w).setCell (p := ⟨g, k, none⟩) (.inl rfl) _
  refine wpList_plain hgd fun K hK => ?_
  unfold Oper.wp execOp
  simp only [ho, hx, hy]
  go_simp
  exact hK _ _ (h _ hm hk')
theorem results_cellN {fn : Func} {p : Tmp} {ty : TypeId} (h : fn.results = #[.cell p ty]) {tmps : Array Value} {w : World} {g : Nat} {vs : List Value} {t : TypeId} (hp : tmps.getD p undef = .pointer (some ⟨g, 0, none⟩)) (hT : (Tryd.prog.info? ty).map (·.size) = some vs.length) {d : TypeDesc} (hu : Tryd.prog.underlying ty = some d) (hd : d.isRow = true) (hb : Box w g t vs.toArray) :
    (results fn tmps).run Tryd.prog w = .ok (.agg vs.toArray) w := by
  have hl := run_loadVar_mid (P := Tryd.prog) w g 0 ty vs d (hb.rangeN 0 vs (by simp)) hu hd hT
  simp only [results, h]
  rw [Array.getD_eq_getD_getElem?] at hp
  simp [hp, hl, asAddr]
end

/- the declared range as a claim, and a claim of the list -/
set_option maxHeartbeats 3200000 in
theorem source0_any (nm : ByteArray) (A : Option Addr) (n c : Nat) (x : Fin 10 → Int) (B : Option Addr) (m q : Nat) (w : World) :
    Calls Tryd.prog 59 #[vdecl nm (.slice A n c) x, .slice B m q, .int .i64 (-1)] w fun e w' => e = .returned (vc (claim0 x)) ∧ Grew w w' := by
  have HB := Lib.hid ((Box.new w 27 (cells12 nm (.slice A n c) x).toArray).alloc (.cells #[.int .i64 0, .int .i64 0, .int .i64 0, .int .i64 0] 52))
  have hN : Box ((w.alloc (.cells (cells12 nm (.slice A n c) x).toArray 27)).alloc (.cells #[.int .i64 0, .int .i64 0, .int .i64 0, .int .i64 0] 52)) (w.alloc (.cells (cells12 nm (.slice A n c) x).toArray 27)).heap.size 52 (cells4 zc).toArray := Box.new _ _ _
  have HG := Lib.hid (((Grew.refl w).alloc (.cells (cells12 nm (.slice A n c) x).toArray 27)).alloc (.cells #[.int .i64 0, .int .i64 0, .int .i64 0, .int .i64 0] 52))
  rw [World.size_alloc] at hN
  have HN := Lib.hid hN
  clear hN
  rw [vdecl_cells]
  go_enter Tryd.func59, Tryd.ntmps59
  go_upto_region 1 with fail
  generalize (w.alloc (.cells (cells12 nm (.slice A n c) x).toArray 27)).alloc (.cells #[.int .i64 0, .int .i64 0, .int .i64 0, .int .i64 0] 52) = w1 at *
  have hb := HB.out
  have c3 : w1.cell? ⟨w.heap.size, 5, none⟩ = some (.int .i64 (x 3)) := hb.cell 5
  have c4 : w1.cell? ⟨w.heap.size, 6, none⟩ = some (.int .i64 (x 4)) := hb.cell 6
  have c7 : w1.cell? ⟨w.heap.size, 9, none⟩ = some (.int .i64 (x 7)) := hb.cell 9
  have c8 : w1.cell? ⟨w.heap.size, 10, none⟩ = some (.int .i64 (x 8)) := hb.cell 10
  clear hb HB
  go_wp2_with (first | ((refine stN 52 (.tmp 6) (.tmp 17) (w.heap.size + 1) (cells4 (claim0 x)) (cells4 zc) 52 info4 rfl (by intro v hv; simp [cells4] at hv; rcases hv with rfl | rfl | rfl | rfl <;> rfl) rfl rfl rfl rfl HN.out ?_); intro w2 bx2 k2 d2))
  refine bodyPost_ret (v := vc (claim0 x)) (results_cellN rfl rfl info4 Tryd.underlying52 rfl bx2) rfl ⟨rfl, Keeps.then_ HG.out k2 (fun i hi e => by omega)⟩
set_option maxHeartbeats 3200000 in
theorem sourceK_any (nm : ByteArray) (A : Option Addr) (n c : Nat) (x : Fin 10 → Int) (v : Value) (cs : List Clm) (j : Nat) (w : World) (hj : j < cs.length) (hr : RdC w w.heap.size v cs) (_ : cs.length ≤ 1000000) :
    Calls Tryd.prog 59 #[vdecl nm (.slice A n c) x, v, .int .i64 (j : Nat)] w fun e w' => e = .returned (vc (cs.getD j zc)) ∧ Grew w w' := by
  have hN : Box ((w.alloc (.cells (cells12 nm (.slice A n c) x).toArray 27)).alloc (.cells #[.int .i64 0, .int .i64 0, .int .i64 0, .int .i64 0] 52)) (w.alloc (.cells (cells12 nm (.slice A n c) x).toArray 27)).heap.size 52 (cells4 zc).toArray := Box.new _ _ _
  have hG := ((Grew.refl w).alloc (.cells (cells12 nm (.slice A n c) x).toArray 27)).alloc (.cells #[.int .i64 0, .int .i64 0, .int .i64 0, .int .i64 0] 52)
  have HG := Lib.hid hG
  rw [World.size_alloc] at hN
  have HN := Lib.hid hN
  clear hN
  have hr1 := hr.grew (Nat.le_refl _) hG
  obtain ⟨B, m, q, rfl, hm, hq⟩ := hr.form
  obtain ⟨g, o, rfl, hgl, hce⟩ := hr1.at_ hj
  generalize cs.getD j zc = d at *
  have hrg : ((w.alloc (.cells (cells12 nm (.slice A n c) x).toArray 27)).alloc (.cells #[.int .i64 0, .int .i64 0, .int .i64 0, .int .i64 0] 52)).rangeAt g (o + j * 4) (cells4 d) := fun k u hu => by rw [Nat.add_assoc]; exact hce k u hu
  have HRg := Lib.hid hrg
  clear hrg
  clear hce
  have hjm : j < m := by omega
  have HM := Lib.hid hm
  have t0 : decide ((j : Int) < 0) = false := by simp
  clear hr hr1 hm hG hj
  rw [vdecl_cells]
  go_enter Tryd.func59, Tryd.ntmps59
  go_upto_region 1 with fail
  generalize (w.alloc (.cells (cells12 nm (.slice A n c) x).toArray 27)).alloc (.cells #[.int .i64 0, .int .i64 0, .int .i64 0, .int .i64 0] 52) = w1 at *
  go_wp2_with (first | (refine wpList_load_mid rfl 52 (.tmp 20) rfl g (o + j * 4) rfl (cells4 d) _ HRg.out Tryd.underlying52 rfl info4 ?_) | (refine stN 52 (.tmp 6) (.tmp 21) (w.heap.size + 1) (cells4 d) (cells4 zc) 52 info4 rfl (by intro v hv; simp [cells4] at hv; rcases hv with rfl | rfl | rfl | rfl <;> rfl) rfl rfl rfl rfl HN.out ?_; intro w2 bx2 k2 d2))
  refine bodyPost_ret (v := vc d) (results_cellN rfl rfl info4 Tryd.underlying52 rfl bx2) rfl ⟨rfl, Keeps.then_ HG.out k2 (fun i hi e => by omega)⟩
end Go.Proofs.YtggnifejlheebaaDoor
namespace Go.Proofs.YtggnifejlheebaaDoor
open Go.RowKit Pl

theorem max_if (a b : Int) : (if a < b then b else a) = max a b := by omega
theorem min_if (a b : Int) : (if b < a then b else a) = min a b := by omega
theorem takeIn_snoc (f : Int) (cs : List Clm) (k : Nat) (e : EnvL) (hk : k < cs.length) : takeIn f (cs.take (k + 1)) e = applyC f (takeIn f (cs.take k) e) (cs.getD k zc) := by
  unfold takeIn
  rw [List.take_add_one, List.getElem?_eq_getElem hk, List.foldl_append, List.getD_eq_getElem?_getD, List.getElem?_eq_getElem hk]
  rfl
theorem range'_snoc (a t : Nat) (h : a ≤ t) : List.range' a (t + 1 - a) = List.range' a (t - a) ++ [t] := by
  rw [show t + 1 - a = (t - a) + 1 by omega, List.range'_concat]
  congr 2
  omega
theorem rev_snoc {M s : Nat} (h : s < M) : (List.range M).reverse.take (M - s) = (List.range M).reverse.take (M - (s + 1)) ++ [s] := by
  rw [show M - s = (M - (s + 1)) + 1 by omega, List.take_add_one]
  congr 1
  rw [List.getElem?_reverse (by simp; omega)]
  simp only [List.length_range]
  rw [List.getElem?_range (by omega)]
  simp; omega
end Go.Proofs.YtggnifejlheebaaDoor
namespace Go.Proofs.YtggnifejlheebaaDoor
open Go.Shelf
def mulA_ren : Go.Shelf.Ren := ⟨fun | 212 => 76 | 263 => 84 | 264 => 85 | n => n, fun | 46 => 81 | 51 => 119 | 146 => 131 | 53 => 80 | 148 => 133 | n => n, fun | n => n⟩
theorem mulA : Go.Proofs.Lays.n212 Tryd.prog mulA_ren := {
  mixed := by kernel_rfl
  f212 := Tryd.func76.trans (congrArg some (by kernel_rfl))
  f263 := Tryd.func84.trans (congrArg some (by kernel_rfl))
  f264 := Tryd.func85.trans (congrArg some (by kernel_rfl))
  t46 := Tryd.underlying81
  a46 := Tryd.isAgg81
  z46 := Tryd.sizeOf81
  v46 := Tryd.zeroValue81
  t51 := Tryd.underlying119
  a51 := Tryd.isAgg119
  z51 := Tryd.sizeOf119
  v51 := Tryd.zeroValue119
  t53 := Tryd.underlying80
  a53 := Tryd.isAgg80
  z53 := Tryd.sizeOf80
  v53 := Tryd.zeroValue80
  t146 := Tryd.underlying131
  a146 := Tryd.isAgg131
  z146 := Tryd.sizeOf131
  v146 := Tryd.zeroValue131
  t148 := Tryd.underlying133
  a148 := Tryd.isAgg133
  z148 := Tryd.sizeOf133
  v148 := Tryd.zeroValue133 }
end Go.Proofs.YtggnifejlheebaaDoor
