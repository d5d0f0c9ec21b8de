/- The reference: Encode. The reference: four codes; Decode. Chapter 18's generators: Made, Bent. -/
import Derived.Test.YtgajmhpnilkmiaaDoorBlockIdsP21
import Derived.Test.YtgajmhpnilkmiaaDoorBlockIdsP06
import Derived.Deep.RegionHeld3
import Derived.Test.YtgajmhpnilkmiaaDoorBlockIdsP10
import Derived.Test.YtgajmhpnilkmiaaDoorBlockIdsP23
import Derived.Test.YtgajmhpnilkmiaaDoorBlockIdsP13
import Derived.StillTailTactics
import Derived.Test.YtgajmhpnilkmiaaDoorBlockIdsP22
namespace Go.Proofs.YtgajmhpnilkmiaaDoor
open Go.RowKit Pl

/- rows of numbers that lie apart -/
def Apart (v u : Value) : Prop := ∀ k, v.ownBlock = some k → u.ownBlock ≠ some k
structure Four (w : World) (base : Nat) (v0 v1 v2 v3 : Value) (x0 x1 x2 x3 : List Value) : Prop where
  m0 : Mine w base 3 v0 x0
  m1 : Mine w base 3 v1 x1
  m2 : Mine w base 3 v2 x2
  m3 : Mine w base 3 v3 x3
  a01 : Apart v0 v1
  a02 : Apart v0 v2
  a03 : Apart v0 v3
  a12 : Apart v1 v2
  a13 : Apart v1 v3
  a23 : Apart v2 v3
section
variable {w w' : World} {base : Nat} {v0 v1 v2 v3 : Value} {x0 x1 x2 x3 : List Value}
theorem Apart.symm {v u : Value} (h : Apart v u) : Apart u v := fun k hk e => h k e hk
theorem Four.rot (h : Four w base v0 v1 v2 v3 x0 x1 x2 x3) : Four w base v1 v2 v3 v0 x1 x2 x3 x0 :=
  ⟨h.m1, h.m2, h.m3, h.m0, h.a12, h.a13, h.a01.symm, h.a23, h.a02.symm, h.a03.symm⟩
theorem Four.grew (h : Four w base v0 v1 v2 v3 x0 x1 x2 x3) (hk : Grew w w') : Four w' base v0 v1 v2 v3 x0 x1 x2 x3 :=
  ⟨h.m0.grew hk, h.m1.grew hk, h.m2.grew hk, h.m3.grew hk, h.a01, h.a02, h.a03, h.a12, h.a13, h.a23⟩
theorem Four.alloc (h : Four w base v0 v1 v2 v3 x0 x1 x2 x3) (o : Obj) : Four (w.alloc o) base v0 v1 v2 v3 x0 x1 x2 x3 := h.grew ((Grew.refl w).alloc o)
theorem Four.drew (h : Four w base v0 v1 v2 v3 x0 x1 x2 x3) : Four w.drew base v0 v1 v2 v3 x0 x1 x2 x3 := h.grew (Keeps.drew (Grew.refl w))
theorem Apart.nil (u : Value) : Apart (.slice none 0 0) u := fun k h => by cases h
theorem Four.nil (w : World) (base : Nat) : Four w base (.slice none 0 0) (.slice none 0 0) (.slice none 0 0) (.slice none 0 0) [] [] [] [] :=
  ⟨Mine.nil _ _ _, Mine.nil _ _ _, Mine.nil _ _ _, Mine.nil _ _ _, Apart.nil _, Apart.nil _, Apart.nil _, Apart.nil _, Apart.nil _, Apart.nil _⟩
theorem Apart.next {v v' u : Value} {e : TypeId} {xs : List Value} (h : Apart v u) (hu : Mine w base e u xs) (hv : v'.ownBlock = v.ownBlock ∨ v'.ownBlock = some w.heap.size) : Apart v' u := fun k hk e => by
  rcases hv with hv | hv
  · exact h k (by rw [← hv]; exact hk) e
  · rw [hv] at hk
    injection hk with hk
    subst hk
    have := (hu.lt _ e).2
    omega
theorem Four.app (h : Four w base v0 v1 v2 v3 x0 x1 x2 x3) {v' : Value} {x' : List Value} (hm : Mine w' base 3 v' x') (hk : Keeps (fun i => v0.ownBlock = some i) w w') (hv : v'.ownBlock = v0.ownBlock ∨ v'.ownBlock = some w.heap.size) :
    Four w' base v' v1 v2 v3 x' x1 x2 x3 :=
  ⟨hm, h.m1.keep hk (fun k a b => h.a01 k b a), h.m2.keep hk (fun k a b => h.a02 k b a), h.m3.keep hk (fun k a b => h.a03 k b a),
    h.a01.next h.m1 hv, h.a02.next h.m2 hv, h.a03.next h.m3 hv, h.a12, h.a13, h.a23⟩
theorem Four.form (h : Four w base v0 v1 v2 v3 x0 x1 x2 x3) : ∃ A n c, v0 = .slice A n c := by
  obtain ⟨A, n, c, rfl, _⟩ := h.m0.slice
  exact ⟨A, n, c, rfl⟩
end
theorem own_of {r n c : Nat} {v : Value} {H : Nat} (h : some r = v.ownBlock ∨ r = H) : (Value.slice (some ⟨r, 0, none⟩) n c).ownBlock = v.ownBlock ∨ (Value.slice (some ⟨r, 0, none⟩) n c).ownBlock = some H := by
  rcases h with h | h
  · exact .inl h
  · exact .inr (by rw [h]; rfl)

/- one element appended in a region that draws its order -/
theorem step_one {P : Program} {t e : TypeId} {bytes : Nat} {z : Value} {w : World} {base : Nat} {v : Value} {xs : List Value} {ops : Array Oper} {o : Oper} {a : Act} {K : Act → World → Prop} {Q : Exit → Act → World → Prop} {E : Prop} (T : SlT P t e bytes z) (hgd : o.guard = none) (s x : Operand)
    (ho : o.op = .call { callee := .builtin .append, args := #[s, x], argTypes := #[t, t] })
    (hs : a.eval s = v) (hown : Mine w base e v xs) (g c : Nat) (u : Value) (hx : a.eval x = .slice (some ⟨g, 0, none⟩) 1 c) (hc1 : 1 ≤ c) (hg : g < w.heap.size) (hu : w.cell? ⟨g, 0, none⟩ = some u) (h1 : u.oneCell' = true)
    (hn : xs.length < 1099511627776) (hbase : base ≤ w.heap.size)
    (h : ∀ r cap w', Mine w' base e (.slice (some ⟨r, 0, none⟩) (xs.length + 1) cap) (xs ++ [u]) → Keeps (fun i => v.ownBlock = some i) w w' →
      (some r = v.ownBlock ∨ r = w.heap.size) → K (a.put o.dst (.slice (some ⟨r, 0, none⟩) (xs.length + 1) cap)) w') :
    if Region.wanted o (yielded ops a.tmps) = true then Oper.wp P o a w K Q else E := by
  have hr : Rd w w.heap.size (.slice (some ⟨g, 0, none⟩) 1 c) [u] := by
    refine ⟨_, c, rfl, hc1, fun _ => ⟨_, rfl, hg, fun j u' hu' => ?_⟩⟩
    match j, hu' with
    | 0, hu' => simp at hu'; subst hu'; simpa [Addr.add] using hu
  refine step_app T hgd s x ho hs hown hx hr (by intro u' hu'; simp at hu'; subst hu'; exact h1) (by simp; omega) hbase ?_
  intro A m cap w' hm h2 h3 h4
  rcases h2.form with ⟨_, hh⟩ | ⟨g', cap', cur, hv, hb, hbox, _⟩
  · simp at hh
  · injection hv with hv1 hv2 hv3
    subst hv1 hv2 hv3
    simp only [List.length_append, List.length_singleton] at h2 h4 ⊢
    refine h g' cap w' h2 h3 ?_
    rcases h4 with h4 | h4
    · exact .inl h4
    · right; simpa [Value.ownBlock] using h4

def fmap (f : Clm → Int) (cs : List Clm) (j : Nat) : List Value := ((cs.take j).map f).map vi
theorem fmap_succ (f : Clm → Int) (cs : List Clm) (j : Nat) (hj : j < cs.length) : fmap f cs (j + 1) = fmap f cs j ++ [.int .i64 (f (cs.getD j zc))] := by
  unfold fmap
  rw [List.take_add_one, List.getElem?_eq_getElem hj]
  have : cs.getD j zc = cs[j] := by rw [List.getD_eq_getElem?_getD, List.getElem?_eq_getElem hj]; rfl
  rw [this, List.map_append, List.map_append]
  rfl
theorem fmap_length (f : Clm → Int) (cs : List Clm) (j : Nat) (hj : j ≤ cs.length) : (fmap f cs j).length = j := by
  unfold fmap; simp; omega
theorem fmap_all (f : Clm → Int) (cs : List Clm) : fmap f cs cs.length = (cs.map f).map vi := by unfold fmap; rw [List.take_length]
def fF (c : Clm) : Int := c.1
def fL (c : Clm) : Int := wrap64 (c.2.1 - c.1)
def fO (c : Clm) : Int := c.2.2.1
def fW (c : Clm) : Int := wrap64 (c.2.2.2 - c.2.2.1)

theorem Mine.int_cell {w : World} {base : Nat} {ad : Addr} {n c j : Nat} {l : List Int} (h : Mine w base 3 (.slice (some ad) n c) (l.map vi)) (hj : j < l.length) {y : Int} (hy : l.getD j 0 = y) : w.cell? (ad.add j) = some (.int .i64 y) := by
  obtain ⟨ad', e, _, hc⟩ := h.rd.int_at hj
  injection e with e
  subst e
  rw [hc, hy]
theorem frs_i64 {cs : List Clm} (h : ∀ c ∈ cs, okC c) : ∀ x ∈ cs.map fF, I64 x := fun x hx => by
  obtain ⟨c, hc, rfl⟩ := List.mem_map.1 hx
  exact (ok_i64 (h c hc)).1
theorem los_i64 {cs : List Clm} (h : ∀ c ∈ cs, okC c) : ∀ x ∈ cs.map fO, I64 x := fun x hx => by
  obtain ⟨c, hc, rfl⟩ := List.mem_map.1 hx
  exact (ok_i64 (h c hc)).2.2.1
theorem map_i64 {cs : List Clm} (f : Clm → Int) (h : ∀ c, I64 (f c)) : ∀ x ∈ cs.map f, I64 x := fun x hx => by
  obtain ⟨c, hc, rfl⟩ := List.mem_map.1 hx
  exact h c

end Go.Proofs.YtgajmhpnilkmiaaDoor
namespace Go.Proofs.YtgajmhpnilkmiaaDoor
open Go.RowKit Pl

theorem l4_setC (c : Clm) (j : Nat) (hj : j < 4) (d : Int) : (l4 (setC c j d)).take (j + 1) = (l4 c).take j ++ [d] := by
  have : j = 0 ∨ j = 1 ∨ j = 2 ∨ j = 3 := by omega
  rcases this with rfl | rfl | rfl | rfl <;> rfl
/- the claim of the reference, number by number -/
theorem wr_step (b a d : Clm) : wrap64 (wrap64 (a.1 - b.1) + d.1) = wrap64 ((nextC b a d).1 - a.1) := by unfold nextC; simp only; unfold wrap64; omega
theorem wr0 (b a d : Clm) : wrap64 (a.1 + wrap64 (wrap64 (a.1 - b.1) + d.1)) = (nextC b a d).1 := by unfold nextC; simp only; unfold wrap64; omega
theorem wr1 (b a d : Clm) : wrap64 ((nextC b a d).1 + wrap64 (wrap64 (a.2.1 - a.1) + d.2.1)) = (nextC b a d).2.1 := by
  unfold nextC; simp only; generalize wrap64 (d.1 + 2 * a.1 - b.1) = x; unfold wrap64; omega
theorem wr2 (b a d : Clm) : wrap64 (a.2.2.1 + d.2.2.1) = (nextC b a d).2.2.1 := by unfold nextC; simp only; rw [Int.add_comm]
theorem wr3 (b a d : Clm) : wrap64 ((nextC b a d).2.2.1 + wrap64 (wrap64 (a.2.2.2 - a.2.2.1) + d.2.2.2)) = (nextC b a d).2.2.2 := by
  unfold nextC; simp only; generalize wrap64 (d.2.2.1 + a.2.2.1) = x; unfold wrap64; omega
theorem Box.put1 {w : World} {g : Nat} {t : TypeId} {c : Clm} (h : Box w g t (cells4 c).toArray) (k : Nat) (hk : k < 4) (n : Int) : Box (w.setCell ⟨g, k, none⟩ (.int .i64 n)) g t (cells4 (setC c k n)).toArray := by
  have := h.set_ k (.int .i64 n)
  rwa [setC_cells c k hk n] at this
/- one number stored: the claim that is then there -/
theorem st1c {ops : Array Oper} {rest : List Oper} {o : Oper} {a : Act} {w : World} {Q : Exit → Act → World → Prop} (x y : Operand) (g k : Nat) (hk : k < 4) (n : Int) (d : Clm) (t : TypeId) (hgd : o.guard = none) (ho : o.op = .store 3 x y)
    (hx : a.eval x = .pointer (some ⟨g, k, none⟩)) (hy : a.eval y = .int .i64 n) (hb : Box w g t (cells4 d).toArray)
    (h : ∀ w', Box w' g t (cells4 (setC d k n)).toArray → Keeps (fun i => i = g) w w' → wpList Tryd.prog ops Q rest (a.put o.dst undef) w') : wpList Tryd.prog ops Q (o :: rest) a w := by
  obtain ⟨u, hu⟩ := get4_some d k hk
  have hc := (hb.cell k).trans hu
  have hf := hb.frozen k
  have hk' : Keeps (fun i => i = g) w (w.setCell ⟨g, k, none⟩ (.int .i64 n)) := (Keeps.refl (fun i => i = g) w).setCell (p := ⟨g, k, none⟩) (.inl rfl) _
  refine wpList_plain hgd fun K hK => ?_
  unfold Oper.wp execOp
  simp only [ho, hx, hy]
  go_simp
  exact hK _ _ (h _ (hb.put1 k hk n) hk')
theorem set_all (b a d : Clm) : setC (setC (setC (setC a 0 (nextC b a d).1) 1 (nextC b a d).2.1) 2 (nextC b a d).2.2.1) 3 (nextC b a d).2.2.2 = nextC b a d := rfl
theorem finCR_none {bs : List Nat} {N : Nat} {t : List Bool} (h : creads N zc zc t = none) : finCR bs N t = none := by unfold finCR; rw [h]
theorem finCR_yes {bs : List Nat} {N : Nat} {t r : List Bool} {l : List Clm} (h : creads N zc zc t = some (l, r)) (hp : encE l = 0 ∧ encB l = bs) : finCR bs N t = some l := by unfold finCR; rw [h]; simp only; rw [if_pos hp]
theorem finCR_no {bs : List Nat} {N : Nat} {t r : List Bool} {l : List Clm} (h : creads N zc zc t = some (l, r)) (hp : ¬ (encE l = 0 ∧ encB l = bs)) : finCR bs N t = none := by unfold finCR; rw [h]; simp only; rw [if_neg hp]
end Go.Proofs.YtgajmhpnilkmiaaDoor
namespace Go.Proofs.YtgajmhpnilkmiaaDoor
open Go.RowKit Pl

theorem get5_some (d : Clm) (v : Value) (k : Nat) (hk : k < 4) : ∃ n : Int, (cells5 d v).toArray[k]? = some (.int .i64 n) := by
  have : k = 0 ∨ k = 1 ∨ k = 2 ∨ k = 3 := by omega
  rcases this with rfl | rfl | rfl | rfl <;> exact ⟨_, rfl⟩
theorem Box.put1b {w : World} {g : Nat} {t : TypeId} {d : Clm} {v : Value} (h : Box w g t (cells5 d v).toArray) (k : Nat) (hk : k < 4) (n : Int) : Box (w.setCell ⟨g, k, none⟩ (.int .i64 n)) g t (cells5 (setC d k n) v).toArray := by
  have h1 := h.set_ k (.int .i64 n)
  have : k = 0 ∨ k = 1 ∨ k = 2 ∨ k = 3 := by omega
  rcases this with rfl | rfl | rfl | rfl <;> exact h1
/- one number of a block stored -/
theorem st1b {ops : Array Oper} {rest : List Oper} {o : Oper} {a : Act} {w : World} {Q : Exit → Act → World → Prop} (x y : Operand) (g k : Nat) (hk : k < 4) (n : Int) (d : Clm) (v : Value) (t : TypeId) (hgd : o.guard = none) (ho : o.op = .store 3 x y)
    (hx : a.eval x = .pointer (some ⟨g, k, none⟩)) (hy : a.eval y = .int .i64 n) (hb : Box w g t (cells5 d v).toArray)
    (h : ∀ w', Box w' g t (cells5 (setC d k n) v).toArray → Keeps (fun i => i = g) w w' → wpList Tryd.prog ops Q rest (a.put o.dst undef) w') : wpList Tryd.prog ops Q (o :: rest) a w := by
  obtain ⟨u, hu⟩ := get5_some d v k hk
  have hc := (hb.cell k).trans hu
  have hf := hb.frozen k
  have hk' : Keeps (fun i => i = g) w (w.setCell ⟨g, k, none⟩ (.int .i64 n)) := (Keeps.refl (fun i => i = g) w).setCell (p := ⟨g, k, none⟩) (.inl rfl) _
  refine wpList_plain hgd fun K hK => ?_
  unfold Oper.wp execOp
  simp only [ho, hx, hy]
  go_simp
  exact hK _ _ (h _ (hb.put1b k hk n) hk')
/- the claims of a block stored into its box -/
theorem stv5 {ops : Array Oper} {rest : List Oper} {o : Oper} {a : Act} {w : World} {Q : Exit → Act → World → Prop} (x y : Operand) (g : Nat) (A : Option Addr) (n c : Nat) (d : Clm) (v : Value) (t : TypeId) (hgd : o.guard = none) (ho : o.op = .store 53 x y)
    (hx : a.eval x = .pointer (some ⟨g, 4, none⟩)) (hy : a.eval y = .slice A n c) (hb : Box w g t (cells5 d v).toArray)
    (h : ∀ w', Box w' g t (cells5 d (.slice A n c)).toArray → Keeps (fun i => i = g) w w' → wpList Tryd.prog ops Q rest (a.put o.dst undef) w') : wpList Tryd.prog ops Q (o :: rest) a w := by
  have hc : w.cell? ⟨g, 4, none⟩ = some v := hb.cell 4
  have hf := hb.frozen 4
  have hk' : Keeps (fun i => i = g) w (w.setCell ⟨g, 4, none⟩ (.slice A n c)) := (Keeps.refl (fun i => i = g) w).setCell (p := ⟨g, 4, none⟩) (.inl rfl) _
  have hb' : Box (w.setCell ⟨g, 4, none⟩ (.slice A n c)) g t (cells5 d (.slice A n c)).toArray := hb.set_ 4 (.slice A n c)
  refine wpList_plain hgd fun K hK => ?_
  unfold Oper.wp execOp
  simp only [ho, hx, hy]
  go_simp
  exact hK _ _ (h _ hb' hk')
/- the numbers of a block that is made -/
def madeX (n : Int) : Clm :=
  if arnd (wrap64 (n.tdiv 5)) 5 = 0 then ((arnd n 5 : Nat), 0, 0, 0)
  else ((arnd n 5 : Nat), (arnd (wrap64 (n.tdiv 5)) 5 : Nat), 1 + (arnd (wrap64 (n.tdiv 25)) 4000 : Nat), (arnd (wrap64 (n.tdiv 7)) 1073741824 : Nat))
theorem madeX_ok (n : Int) : okB (madeX n) := by
  unfold madeX okB
  have h1 := arnd_lt n 5 (by omega)
  have h2 := arnd_lt (wrap64 (n.tdiv 5)) 5 (by omega)
  have h3 := arnd_lt (wrap64 (n.tdiv 25)) 4000 (by omega)
  have h4 := arnd_lt (wrap64 (n.tdiv 7)) 1073741824 (by omega)
  generalize arnd n 5 = a at *
  generalize arnd (wrap64 (n.tdiv 5)) 5 = k at *
  generalize arnd (wrap64 (n.tdiv 25)) 4000 = p at *
  generalize arnd (wrap64 (n.tdiv 7)) 1073741824 = c at *
  have : k = 0 ∨ k = 1 ∨ k = 2 ∨ k = 3 ∨ k = 4 := by omega
  rcases this with rfl | rfl | rfl | rfl | rfl <;> simp [pLo, pHi] <;> omega
/- a block made from numbers -/
def MadePost (X : Clm) (w : World) (e : Ending) (w' : World) : Prop :=
  ∃ v cs, e = .returned (vbl X v) ∧ MineC w' w.heap.size v cs ∧ (∀ c ∈ cs, okC c) ∧ cs.length ≤ 9 ∧ Grew w w'
set_option maxHeartbeats 6400000 in
set_option maxRecDepth 100000 in
theorem made_any (n : Int) (v : Value) (l : List Int) (w : World) (hn : I64 n) (h : Rd w w.heap.size v (l.map vi)) (hi : ∀ x ∈ l, I64 x) (hl : l.length ≤ 1000000000000000) :
    Calls Tryd.prog 21 #[.int .i64 n, v] w (MadePost (madeX n) w) := by
  have HG := Lib.hid ((Grew.refl w).alloc (.cells (cells5 zc (.slice none 0 0)).toArray 55))
  have HB := Lib.hid (Box.new w 55 (cells5 zc (.slice none 0 0)).toArray)
  have hsz : (w.alloc (.cells (cells5 zc (.slice none 0 0)).toArray 55)).heap.size = w.heap.size + 1 := by simp
  have HC := Lib.hid (claims_any v l (w.alloc (.cells (cells5 zc (.slice none 0 0)).toArray 55)) ((h.grew (Nat.le_refl _) HG.out).more (by omega)) hi hl)
  obtain ⟨A, m, c, rfl, hm, hc⟩ := h.form
  clear h hm hi
  have HA1 := Lib.hid (fun w1 => arnd' n 5 w1 hn (by omega) (by omega))
  have HA2 := Lib.hid (fun w1 => arnd' (wrap64 (n.tdiv 5)) 5 w1 (wrap_I64 _) (by omega) (by omega))
  have HA3 := Lib.hid (fun w1 => arnd' (wrap64 (n.tdiv 25)) 4000 w1 (wrap_I64 _) (by omega) (by omega))
  have HA4 := Lib.hid (fun w1 => arnd' (wrap64 (n.tdiv 7)) 1073741824 w1 (wrap_I64 _) (by omega) (by omega))
  have hk := arnd_lt (wrap64 (n.tdiv 5)) 5 (by omega)
  have hp := arnd_lt (wrap64 (n.tdiv 25)) 4000 (by omega)
  obtain ⟨X, hX⟩ : ∃ X, X = madeX n := ⟨_, rfl⟩
  rw [← hX]
  unfold madeX at hX
  have HX := Lib.hid hX
  clear hX
  go_enter Tryd.func21, Tryd.ntmps21
  go_upto_region 1 with fail
  change Code.wp _ _ _ _ (w.alloc (.cells (cells5 zc (.slice none 0 0)).toArray 55))
  generalize w.alloc (.cells (cells5 zc (.slice none 0 0)).toArray 55) = w1 at *
  go_wp2_with fail
  refine (HA1.out w1).mono ?_
  rintro e w' ⟨rfl, hw'⟩
  rw [hw']; clear hw' w'
  go_wp2_with fail
  refine (HA2.out w1).mono ?_
  rintro e w' ⟨rfl, hw'⟩
  rw [hw']; clear hw' w'
  rw [show (5 : Int).toNat = 5 from rfl]
  generalize arnd n 5 = s at *
  generalize arnd (wrap64 (n.tdiv 5)) 5 = k at *
  clear HA1 HA2
  go_wp2_with fail
  refine HC.out.mono ?_
  rintro e w2 ⟨v2, cs, rfl, q1, q2, q3, q4⟩
  obtain ⟨A2, m2, c2, rfl, -⟩ := q1.slice
  have hb2 := HB.out.grew q4
  have hG2 := HG.out.trans q4
  have hs2 := hG2.size
  have hO : ∀ i, (Value.slice A2 m2 c2).ownBlock = some i → i < w2.heap.size := fun i e => (q1.lt i e).2
  have hO0 : ∀ i, (Value.slice A2 m2 c2).ownBlock = some i → i ≠ w.heap.size := fun i e e2 => q1.ne_box e hb2 (by decide) e2
  have HO := Lib.hid hO
  have HO0 := Lib.hid hO0
  clear hO hO0 HC
  by_cases hk0 : k = 0
  · subst hk0
    rw [if_pos rfl] at HX
    have HXX := Lib.hid HX.out
    clear HX HA3 HA4
    go_wp2_with (first | (refine st5 55 infoR (.tmp 5) (.tmp 13) w2.heap.size ((s : Int), 0, 0, 0) zc (.slice A2 m2 c2) (.slice none 0 0) 55 rfl rfl rfl rfl rfl (Box.new w2 55 (cells5 zc (.slice none 0 0)).toArray) ?_; intro w3 hb3 hk3; obtain ⟨d0, d1, d2, d3, d4⟩ := hb3.five) | (refine ld5 55 infoR Tryd.underlying55 rfl (.tmp 5) w2.heap.size ((s : Int), 0, 0, 0) (.slice A2 m2 c2) 55 rfl rfl rfl hb3 ?_) | (refine st5 55 infoR (.tmp 4) (.tmp 26) w.heap.size ((s : Int), 0, 0, 0) zc (.slice A2 m2 c2) (.slice none 0 0) 55 rfl rfl rfl rfl rfl ((hb2.alloc _).keep hk3 (by have := hb2.lt; omega)) ?_; intro w4 hb4 hk4))
    have q1' := q1.alloc (.cells (cells5 zc (.slice none 0 0)).toArray 55)
    have m3 := q1'.keep hk3 (fun i e e2 => by have := HO.out i e; omega)
    have m4 := m3.keep hk4 (fun i e e2 => HO0.out i e e2)
    have hG3 : Grew w w3 := Keeps.then_ (hG2.alloc _) hk3 (fun i hi e => by omega)
    have hG4 : Grew w w4 := Keeps.then_ hG3 hk4 (fun i hi e => by omega)
    exact bodyPost_ret (v := vbl ((s : Int), 0, 0, 0) (.slice A2 m2 c2)) (results_cell5 rfl rfl infoR Tryd.underlying55 rfl hb4) rfl ⟨_, cs, by rw [HXX.out], m4.base_le (by omega), q2, q3, hG4⟩
  · rw [if_neg hk0] at HX
    have t0 : decide ((0 : Int) < (k : Int)) = true := by simp; omega
    have HXX := Lib.hid HX.out
    clear HX
    go_wp2_with (first | (refine st5 55 infoR (.tmp 5) (.tmp 13) w2.heap.size ((s : Int), (k : Int), 0, 0) zc (.slice A2 m2 c2) (.slice none 0 0) 55 rfl rfl rfl rfl rfl (Box.new w2 55 (cells5 zc (.slice none 0 0)).toArray) ?_; intro w3 hb3 hk3; obtain ⟨d0, d1, d2, d3, d4⟩ := hb3.five))
    have q1' := q1.alloc (.cells (cells5 zc (.slice none 0 0)).toArray 55)
    have m3 := q1'.keep hk3 (fun i e e2 => by have := HO.out i e; omega)
    have hG3 : Grew w w3 := Keeps.then_ (hG2.alloc _) hk3 (fun i hi e => by omega)
    have hb3' := (hb2.alloc (.cells (cells5 zc (.slice none 0 0)).toArray 55)).keep hk3 (by have := hb2.lt; omega)
    have hlt2 := hb2.lt
    clear hk3 q1' hG2 hb2 q1
    refine (HA3.out w3).mono ?_
    rintro e w' ⟨rfl, hw'⟩
    rw [hw']; clear hw' w'
    rw [show (4000 : Int).toNat = 4000 from rfl]
    clear HA3
    generalize arnd (wrap64 (n.tdiv 25)) 4000 = p at *
    go_wp2_with (first | (refine st1b (.tmp 21) (.tmp 20) w2.heap.size 2 (by decide) (1 + (p : Int)) ((s : Int), (k : Int), 0, 0) (.slice A2 m2 c2) 55 rfl rfl rfl rfl hb3 ?_; intro w4 hb4 hk4))
    have m4 := m3.keep hk4 (fun i e e2 => by have := HO.out i e; omega)
    have hG4 : Grew w w4 := Keeps.then_ hG3 hk4 (fun i hi e => by omega)
    have hb4' := hb3'.keep hk4 (by omega)
    clear hk4 m3 hG3 hb3' hb3 d0 d1 d2 d3 d4
    refine (HA4.out w4).mono ?_
    rintro e w' ⟨rfl, hw'⟩
    rw [hw']; clear hw' w'
    rw [show (1073741824 : Int).toNat = 1073741824 from rfl]
    generalize arnd (wrap64 (n.tdiv 7)) 1073741824 = co at *
    clear HA4
    go_wp2_with (first | (refine st1b (.tmp 25) (.tmp 24) w2.heap.size 3 (by decide) (co : Int) (setC ((s : Int), (k : Int), 0, 0) 2 (1 + (p : Int))) (.slice A2 m2 c2) 55 rfl rfl rfl rfl hb4 ?_; intro w5 hb5 hk5) | (refine ld5 55 infoR Tryd.underlying55 rfl (.tmp 5) w2.heap.size ((s : Int), (k : Int), 1 + (p : Int), (co : Int)) (.slice A2 m2 c2) 55 rfl rfl rfl hb5 ?_) | (refine st5 55 infoR (.tmp 4) (.tmp 26) w.heap.size ((s : Int), (k : Int), 1 + (p : Int), (co : Int)) zc (.slice A2 m2 c2) (.slice none 0 0) 55 rfl rfl rfl rfl rfl (hb4'.keep hk5 (by omega)) ?_; intro w6 hb6 hk6))
    have m5 := m4.keep hk5 (fun i e e2 => by have := HO.out i e; omega)
    have m6 := m5.keep hk6 (fun i e e2 => HO0.out i e e2)
    have hG5 : Grew w w5 := Keeps.then_ hG4 hk5 (fun i hi e => by omega)
    have hG6 : Grew w w6 := Keeps.then_ hG5 hk6 (fun i hi e => by omega)
    exact bodyPost_ret (v := vbl ((s : Int), (k : Int), 1 + (p : Int), (co : Int)) (.slice A2 m2 c2)) (results_cell5 rfl rfl infoR Tryd.underlying55 rfl hb6) rfl ⟨_, cs, by rw [HXX.out], m6.base_le (by omega), q2, q3, hG6⟩
end Go.Proofs.YtgajmhpnilkmiaaDoor
