/- The reference: Encode. The reference: four codes; Decode. Chapter 18's generators: Made, Bent. block.Decode. -/
import Derived.Test.YtgkmfblmkfclbaaGreatDoorBlockSoundP20
import Derived.Test.YtgkmfblmkfclbaaGreatDoorBlockSoundP06
import Derived.Deep.RegionHeld3
import Derived.Test.YtgkmfblmkfclbaaGreatDoorBlockSoundP08
import Derived.Test.YtgkmfblmkfclbaaGreatDoorBlockSoundP47
import Derived.Test.YtgkmfblmkfclbaaGreatDoorBlockSoundP12
import Derived.StillTailTactics
import Derived.Test.YtgkmfblmkfclbaaGreatDoorBlockSoundP46
import Derived.Test.YtgkmfblmkfclbaaGreatDoorBlockSoundP19
namespace Go.Proofs.YtgkmfblmkfclbaaGreatDoor
open Go.RowKit Pl

/- rows of numbers that lie apart -/
def Apart (v u : Value) : Prop := ∀ k, v.ownBlock = some k → u.ownBlock ≠ some k
structure Four (w : World) (base : Nat) (v0 v1 v2 v3 : Value) (x0 x1 x2 x3 : List Value) : Prop where
  m0 : Mine w base 3 v0 x0
  m1 : Mine w base 3 v1 x1
  m2 : Mine w base 3 v2 x2
  m3 : Mine w base 3 v3 x3
  a01 : Apart v0 v1
  a02 : Apart v0 v2
  a03 : Apart v0 v3
  a12 : Apart v1 v2
  a13 : Apart v1 v3
  a23 : Apart v2 v3
section
variable {w w' : World} {base : Nat} {v0 v1 v2 v3 : Value} {x0 x1 x2 x3 : List Value}
theorem Apart.symm {v u : Value} (h : Apart v u) : Apart u v := fun k hk e => h k e hk
theorem Four.rot (h : Four w base v0 v1 v2 v3 x0 x1 x2 x3) : Four w base v1 v2 v3 v0 x1 x2 x3 x0 :=
  ⟨h.m1, h.m2, h.m3, h.m0, h.a12, h.a13, h.a01.symm, h.a23, h.a02.symm, h.a03.symm⟩
theorem Four.grew (h : Four w base v0 v1 v2 v3 x0 x1 x2 x3) (hk : Grew w w') : Four w' base v0 v1 v2 v3 x0 x1 x2 x3 :=
  ⟨h.m0.grew hk, h.m1.grew hk, h.m2.grew hk, h.m3.grew hk, h.a01, h.a02, h.a03, h.a12, h.a13, h.a23⟩
theorem Four.alloc (h : Four w base v0 v1 v2 v3 x0 x1 x2 x3) (o : Obj) : Four (w.alloc o) base v0 v1 v2 v3 x0 x1 x2 x3 := h.grew ((Grew.refl w).alloc o)
theorem Four.drew (h : Four w base v0 v1 v2 v3 x0 x1 x2 x3) : Four w.drew base v0 v1 v2 v3 x0 x1 x2 x3 := h.grew (Keeps.drew (Grew.refl w))
theorem Apart.nil (u : Value) : Apart (.slice none 0 0) u := fun k h => by cases h
theorem Four.nil (w : World) (base : Nat) : Four w base (.slice none 0 0) (.slice none 0 0) (.slice none 0 0) (.slice none 0 0) [] [] [] [] :=
  ⟨Mine.nil _ _ _, Mine.nil _ _ _, Mine.nil _ _ _, Mine.nil _ _ _, Apart.nil _, Apart.nil _, Apart.nil _, Apart.nil _, Apart.nil _, Apart.nil _⟩
theorem Apart.next {v v' u : Value} {e : TypeId} {xs : List Value} (h : Apart v u) (hu : Mine w base e u xs) (hv : v'.ownBlock = v.ownBlock ∨ v'.ownBlock = some w.heap.size) : Apart v' u := fun k hk e => by
  rcases hv with hv | hv
  · exact h k (by rw [← hv]; exact hk) e
  · rw [hv] at hk
    injection hk with hk
    subst hk
    have := (hu.lt _ e).2
    omega
theorem Four.app (h : Four w base v0 v1 v2 v3 x0 x1 x2 x3) {v' : Value} {x' : List Value} (hm : Mine w' base 3 v' x') (hk : Keeps (fun i => v0.ownBlock = some i) w w') (hv : v'.ownBlock = v0.ownBlock ∨ v'.ownBlock = some w.heap.size) :
    Four w' base v' v1 v2 v3 x' x1 x2 x3 :=
  ⟨hm, h.m1.keep hk (fun k a b => h.a01 k b a), h.m2.keep hk (fun k a b => h.a02 k b a), h.m3.keep hk (fun k a b => h.a03 k b a),
    h.a01.next h.m1 hv, h.a02.next h.m2 hv, h.a03.next h.m3 hv, h.a12, h.a13, h.a23⟩
theorem Four.form (h : Four w base v0 v1 v2 v3 x0 x1 x2 x3) : ∃ A n c, v0 = .slice A n c := by
  obtain ⟨A, n, c, rfl, _⟩ := h.m0.slice
  exact ⟨A, n, c, rfl⟩
end
theorem own_of {r n c : Nat} {v : Value} {H : Nat} (h : some r = v.ownBlock ∨ r = H) : (Value.slice (some ⟨r, 0, none⟩) n c).ownBlock = v.ownBlock ∨ (Value.slice (some ⟨r, 0, none⟩) n c).ownBlock = some H := by
  rcases h with h | h
  · exact .inl h
  · exact .inr (by rw [h]; rfl)

/- one element appended in a region that draws its order -/
theorem step_one {P : Program} {t e : TypeId} {bytes : Nat} {z : Value} {w : World} {base : Nat} {v : Value} {xs : List Value} {ops : Array Oper} {o : Oper} {a : Act} {K : Act → World → Prop} {Q : Exit → Act → World → Prop} {E : Prop} (T : SlT P t e bytes z) (hgd : o.guard = none) (s x : Operand)
    (ho : o.op = .call { callee := .builtin .append, args := #[s, x], argTypes := #[t, t] })
    (hs : a.eval s = v) (hown : Mine w base e v xs) (g c : Nat) (u : Value) (hx : a.eval x = .slice (some ⟨g, 0, none⟩) 1 c) (hc1 : 1 ≤ c) (hg : g < w.heap.size) (hu : w.cell? ⟨g, 0, none⟩ = some u) (h1 : u.oneCell' = true)
    (hn : xs.length < 1099511627776) (hbase : base ≤ w.heap.size)
    (h : ∀ r cap w', Mine w' base e (.slice (some ⟨r, 0, none⟩) (xs.length + 1) cap) (xs ++ [u]) → Keeps (fun i => v.ownBlock = some i) w w' →
      (some r = v.ownBlock ∨ r = w.heap.size) → K (a.put o.dst (.slice (some ⟨r, 0, none⟩) (xs.length + 1) cap)) w') :
    if Region.wanted o (yielded ops a.tmps) = true then Oper.wp P o a w K Q else E := by
  have hr : Rd w w.heap.size (.slice (some ⟨g, 0, none⟩) 1 c) [u] := by
    refine ⟨_, c, rfl, hc1, fun _ => ⟨_, rfl, hg, fun j u' hu' => ?_⟩⟩
    match j, hu' with
    | 0, hu' => simp at hu'; subst hu'; simpa [Addr.add] using hu
  refine step_app T hgd s x ho hs hown hx hr (by intro u' hu'; simp at hu'; subst hu'; exact h1) (by simp; omega) hbase ?_
  intro A m cap w' hm h2 h3 h4
  rcases h2.form with ⟨_, hh⟩ | ⟨g', cap', cur, hv, hb, hbox, _⟩
  · simp at hh
  · injection hv with hv1 hv2 hv3
    subst hv1 hv2 hv3
    simp only [List.length_append, List.length_singleton] at h2 h4 ⊢
    refine h g' cap w' h2 h3 ?_
    rcases h4 with h4 | h4
    · exact .inl h4
    · right; simpa [Value.ownBlock] using h4

def fmap (f : Clm → Int) (cs : List Clm) (j : Nat) : List Value := ((cs.take j).map f).map vi
theorem fmap_succ (f : Clm → Int) (cs : List Clm) (j : Nat) (hj : j < cs.length) : fmap f cs (j + 1) = fmap f cs j ++ [.int .i64 (f (cs.getD j zc))] := by
  unfold fmap
  rw [List.take_add_one, List.getElem?_eq_getElem hj]
  have : cs.getD j zc = cs[j] := by rw [List.getD_eq_getElem?_getD, List.getElem?_eq_getElem hj]; rfl
  rw [this, List.map_append, List.map_append]
  rfl
theorem fmap_length (f : Clm → Int) (cs : List Clm) (j : Nat) (hj : j ≤ cs.length) : (fmap f cs j).length = j := by
  unfold fmap; simp; omega
theorem fmap_all (f : Clm → Int) (cs : List Clm) : fmap f cs cs.length = (cs.map f).map vi := by unfold fmap; rw [List.take_length]
def fF (c : Clm) : Int := c.1
def fL (c : Clm) : Int := wrap64 (c.2.1 - c.1)
def fO (c : Clm) : Int := c.2.2.1
def fW (c : Clm) : Int := wrap64 (c.2.2.2 - c.2.2.1)

theorem Mine.int_cellR {w : World} {base : Nat} {ad : Addr} {n c j : Nat} {l : List Int} (h : Mine w base 3 (.slice (some ad) n c) (l.map vi)) (hj : j < l.length) {y : Int} (hy : l.getD j 0 = y) : w.cell? (ad.add j) = some (.int .i64 y) := by
  obtain ⟨ad', e, _, hc⟩ := h.rd.int_at hj
  injection e with e
  subst e
  rw [hc, hy]
theorem frs_i64 {cs : List Clm} (h : ∀ c ∈ cs, okC c) : ∀ x ∈ cs.map fF, I64 x := fun x hx => by
  obtain ⟨c, hc, rfl⟩ := List.mem_map.1 hx
  exact (ok_i64 (h c hc)).1
theorem los_i64 {cs : List Clm} (h : ∀ c ∈ cs, okC c) : ∀ x ∈ cs.map fO, I64 x := fun x hx => by
  obtain ⟨c, hc, rfl⟩ := List.mem_map.1 hx
  exact (ok_i64 (h c hc)).2.2.1
theorem map_i64 {cs : List Clm} (f : Clm → Int) (h : ∀ c, I64 (f c)) : ∀ x ∈ cs.map f, I64 x := fun x hx => by
  obtain ⟨c, hc, rfl⟩ := List.mem_map.1 hx
  exact h c

end Go.Proofs.YtgkmfblmkfclbaaGreatDoor
namespace Go.Proofs.YtgkmfblmkfclbaaGreatDoor
open Go.RowKit Pl

theorem l4_setC (c : Clm) (j : Nat) (hj : j < 4) (d : Int) : (l4 (setC c j d)).take (j + 1) = (l4 c).take j ++ [d] := by
  have : j = 0 ∨ j = 1 ∨ j = 2 ∨ j = 3 := by omega
  rcases this with rfl | rfl | rfl | rfl <;> rfl
/- the claim of the reference, number by number -/
theorem wr_step (b a d : Clm) : wrap64 (wrap64 (a.1 - b.1) + d.1) = wrap64 ((nextC b a d).1 - a.1) := by unfold nextC; simp only; unfold wrap64; omega
theorem wr0 (b a d : Clm) : wrap64 (a.1 + wrap64 (wrap64 (a.1 - b.1) + d.1)) = (nextC b a d).1 := by unfold nextC; simp only; unfold wrap64; omega
theorem wr1 (b a d : Clm) : wrap64 ((nextC b a d).1 + wrap64 (wrap64 (a.2.1 - a.1) + d.2.1)) = (nextC b a d).2.1 := by
  unfold nextC; simp only; generalize wrap64 (d.1 + 2 * a.1 - b.1) = x; unfold wrap64; omega
theorem wr2 (b a d : Clm) : wrap64 (a.2.2.1 + d.2.2.1) = (nextC b a d).2.2.1 := by unfold nextC; simp only; rw [Int.add_comm]
theorem wr3 (b a d : Clm) : wrap64 ((nextC b a d).2.2.1 + wrap64 (wrap64 (a.2.2.2 - a.2.2.1) + d.2.2.2)) = (nextC b a d).2.2.2 := by
  unfold nextC; simp only; generalize wrap64 (d.2.2.1 + a.2.2.1) = x; unfold wrap64; omega
theorem Box.put1 {w : World} {g : Nat} {t : TypeId} {c : Clm} (h : Box w g t (cells4 c).toArray) (k : Nat) (hk : k < 4) (n : Int) : Box (w.setCell ⟨g, k, none⟩ (.int .i64 n)) g t (cells4 (setC c k n)).toArray := by
  have := h.set_ k (.int .i64 n)
  rwa [setC_cells c k hk n] at this
/- one number stored: the claim that is then there -/
theorem st1c {ops : Array Oper} {rest : List Oper} {o : Oper} {a : Act} {w : World} {Q : Exit → Act → World → Prop} (x y : Operand) (g k : Nat) (hk : k < 4) (n : Int) (d : Clm) (t : TypeId) (hgd : o.guard = none) (ho : o.op = .store 3 x y)
    (hx : a.eval x = .pointer (some ⟨g, k, none⟩)) (hy : a.eval y = .int .i64 n) (hb : Box w g t (cells4 d).toArray)
    (h : ∀ w', Box w' g t (cells4 (setC d k n)).toArray → Keeps (fun i => i = g) w w' → wpList Tryz.prog ops Q rest (a.put o.dst undef) w') : wpList Tryz.prog ops Q (o :: rest) a w := by
  obtain ⟨u, hu⟩ := get4_some d k hk
  have hc := (hb.cell k).trans hu
  have hf := hb.frozen k
  have hk' : Keeps (fun i => i = g) w (w.setCell ⟨g, k, none⟩ (.int .i64 n)) := (Keeps.refl (fun i => i = g) w).setCell (p := ⟨g, k, none⟩) (.inl rfl) _
  refine wpList_plain hgd fun K hK => ?_
  unfold Oper.wp execOp
  simp only [ho, hx, hy]
  go_simp
  exact hK _ _ (h _ (hb.put1 k hk n) hk')
theorem set_all (b a d : Clm) : setC (setC (setC (setC a 0 (nextC b a d).1) 1 (nextC b a d).2.1) 2 (nextC b a d).2.2.1) 3 (nextC b a d).2.2.2 = nextC b a d := rfl
theorem finCR_none {bs : List Nat} {N : Nat} {t : List Bool} (h : creads N zc zc t = none) : finCR bs N t = none := by unfold finCR; rw [h]
theorem finCR_yes {bs : List Nat} {N : Nat} {t r : List Bool} {l : List Clm} (h : creads N zc zc t = some (l, r)) (hp : encE l = 0 ∧ encB l = bs) : finCR bs N t = some l := by unfold finCR; rw [h]; simp only; rw [if_pos hp]
theorem finCR_no {bs : List Nat} {N : Nat} {t r : List Bool} {l : List Clm} (h : creads N zc zc t = some (l, r)) (hp : ¬ (encE l = 0 ∧ encB l = bs)) : finCR bs N t = none := by unfold finCR; rw [h]; simp only; rw [if_neg hp]
end Go.Proofs.YtgkmfblmkfclbaaGreatDoor
namespace Go.Proofs.YtgkmfblmkfclbaaGreatDoor
open Go.RowKit Pl

theorem get5_some (d : Clm) (v : Value) (k : Nat) (hk : k < 4) : ∃ n : Int, (cells5 d v).toArray[k]? = some (.int .i64 n) := by
  have : k = 0 ∨ k = 1 ∨ k = 2 ∨ k = 3 := by omega
  rcases this with rfl | rfl | rfl | rfl <;> exact ⟨_, rfl⟩
theorem Box.put1b {w : World} {g : Nat} {t : TypeId} {d : Clm} {v : Value} (h : Box w g t (cells5 d v).toArray) (k : Nat) (hk : k < 4) (n : Int) : Box (w.setCell ⟨g, k, none⟩ (.int .i64 n)) g t (cells5 (setC d k n) v).toArray := by
  have h1 := h.set_ k (.int .i64 n)
  have : k = 0 ∨ k = 1 ∨ k = 2 ∨ k = 3 := by omega
  rcases this with rfl | rfl | rfl | rfl <;> exact h1
/- one number of a block stored -/
theorem st1b {ops : Array Oper} {rest : List Oper} {o : Oper} {a : Act} {w : World} {Q : Exit → Act → World → Prop} (x y : Operand) (g k : Nat) (hk : k < 4) (n : Int) (d : Clm) (v : Value) (t : TypeId) (hgd : o.guard = none) (ho : o.op = .store 3 x y)
    (hx : a.eval x = .pointer (some ⟨g, k, none⟩)) (hy : a.eval y = .int .i64 n) (hb : Box w g t (cells5 d v).toArray)
    (h : ∀ w', Box w' g t (cells5 (setC d k n) v).toArray → Keeps (fun i => i = g) w w' → wpList Tryz.prog ops Q rest (a.put o.dst undef) w') : wpList Tryz.prog ops Q (o :: rest) a w := by
  obtain ⟨u, hu⟩ := get5_some d v k hk
  have hc := (hb.cell k).trans hu
  have hf := hb.frozen k
  have hk' : Keeps (fun i => i = g) w (w.setCell ⟨g, k, none⟩ (.int .i64 n)) := (Keeps.refl (fun i => i = g) w).setCell (p := ⟨g, k, none⟩) (.inl rfl) _
  refine wpList_plain hgd fun K hK => ?_
  unfold Oper.wp execOp
  simp only [ho, hx, hy]
  go_simp
  exact hK _ _ (h _ (hb.put1b k hk n) hk')
/- the claims of a block stored into its box -/
theorem stv5 {ops : Array Oper} {rest : List Oper} {o : Oper} {a : Act} {w : World} {Q : Exit → Act → World → Prop} (x y : Operand) (g : Nat) (A : Option Addr) (n c : Nat) (d : Clm) (v : Value) (t : TypeId) (hgd : o.guard = none) (ho : o.op = .store 29 x y)
    (hx : a.eval x = .pointer (some ⟨g, 4, none⟩)) (hy : a.eval y = .slice A n c) (hb : Box w g t (cells5 d v).toArray)
    (h : ∀ w', Box w' g t (cells5 d (.slice A n c)).toArray → Keeps (fun i => i = g) w w' → wpList Tryz.prog ops Q rest (a.put o.dst undef) w') : wpList Tryz.prog ops Q (o :: rest) a w := by
  have hc : w.cell? ⟨g, 4, none⟩ = some v := hb.cell 4
  have hf := hb.frozen 4
  have hk' : Keeps (fun i => i = g) w (w.setCell ⟨g, 4, none⟩ (.slice A n c)) := (Keeps.refl (fun i => i = g) w).setCell (p := ⟨g, 4, none⟩) (.inl rfl) _
  have hb' : Box (w.setCell ⟨g, 4, none⟩ (.slice A n c)) g t (cells5 d (.slice A n c)).toArray := hb.set_ 4 (.slice A n c)
  refine wpList_plain hgd fun K hK => ?_
  unfold Oper.wp execOp
  simp only [ho, hx, hy]
  go_simp
  exact hK _ _ (h _ hb' hk')
/- the numbers of a block that is made -/
def madeX (n : Int) : Clm :=
  if arnd (wrap64 (n.tdiv 5)) 5 = 0 then ((arnd n 5 : Nat), 0, 0, 0)
  else ((arnd n 5 : Nat), (arnd (wrap64 (n.tdiv 5)) 5 : Nat), 1 + (arnd (wrap64 (n.tdiv 25)) 4000 : Nat), (arnd (wrap64 (n.tdiv 7)) 1073741824 : Nat))
theorem madeX_ok (n : Int) : okB (madeX n) := by
  unfold madeX okB
  have h1 := arnd_lt n 5 (by omega)
  have h2 := arnd_lt (wrap64 (n.tdiv 5)) 5 (by omega)
  have h3 := arnd_lt (wrap64 (n.tdiv 25)) 4000 (by omega)
  have h4 := arnd_lt (wrap64 (n.tdiv 7)) 1073741824 (by omega)
  generalize arnd n 5 = a at *
  generalize arnd (wrap64 (n.tdiv 5)) 5 = k at *
  generalize arnd (wrap64 (n.tdiv 25)) 4000 = p at *
  generalize arnd (wrap64 (n.tdiv 7)) 1073741824 = c at *
  have : k = 0 ∨ k = 1 ∨ k = 2 ∨ k = 3 ∨ k = 4 := by omega
  rcases this with rfl | rfl | rfl | rfl | rfl <;> simp [pLo, pHi] <;> omega
/- a block made from numbers -/
def MadePost (X : Clm) (w : World) (e : Ending) (w' : World) : Prop :=
  ∃ v cs, e = .returned (vbl X v) ∧ MineC w' w.heap.size v cs ∧ (∀ c ∈ cs, okC c) ∧ cs.length ≤ 9 ∧ Grew w w'
end Go.Proofs.YtgkmfblmkfclbaaGreatDoor
namespace Go.Proofs.YtgkmfblmkfclbaaGreatDoor
open Go.RowKit Pl

theorem results_cell5_2 {fn : Func} {p q : Tmp} {ty : TypeId} (h : fn.results = #[.cell p ty, .tmp q]) {tmps : Array Value} {w : World} {g : Nat} {c : Clm} {v u : Value} {t : TypeId} (hp : tmps.getD p undef = .pointer (some ⟨g, 0, none⟩)) (hq : tmps.getD q undef = u) (hT : (Tryz.prog.info? ty).map (·.size) = some 5) {d : TypeDesc} (hu : Tryz.prog.underlying ty = some d) (hd : d.isRow = true) (hb : Box w g t (cells5 c v).toArray) :
    (results fn tmps).run Tryz.prog w = .ok (.tuple #[vbl c v, u]) w := by
  have hl := run_loadVar_mid (P := Tryz.prog) w g 0 ty (cells5 c v) d hb.range5 hu hd hT
  simp only [results, h]
  rw [Array.getD_eq_getD_getElem?] at hp hq
  first | (simp [hp, hq, Result.andThen, hl, asAddr, vbl_cells]; done) | simp [Sem.run_bind, hp, hq, Result.andThen, hl, asAddr, vbl_cells]
set_option maxHeartbeats 1600000 in
theorem readR_any (v : Value) (bs : List Nat) (w : World) (h : Rd w w.heap.size v (bs.map vb)) (hb : Bytes bs) (hl : bs.length ≤ 1000000) :
    Calls Tryz.prog 37 #[v] w fun e w' => ∃ g u, e = .returned (.pointer (some ⟨g, 0, none⟩)) ∧ WR w' w.heap.size g u bs 0 0 ∧ w.heap.size ≤ g ∧ Grew w w' := by
  have HC := Lib.hid (clone_any v bs w h (by omega))
  obtain ⟨A, n, c, rfl, hn, hc⟩ := h.form
  clear h hn
  go_enter Tryz.func37, Tryz.ntmps37
  go_wp2_with fail
  refine HC.out.mono ?_
  rintro e w2 ⟨v2, rfl, k1, k2⟩
  obtain ⟨A2, n2, c2, rfl, -⟩ := k1.slice
  have hs := k2.size
  go_wp2_with fail
  go_ret
  exact ⟨_, _, rfl, ⟨Box.new w2 117 _, k1.alloc _, hb, hl, Nat.zero_le _⟩, hs, k2.alloc _⟩
theorem uP_rest {bs : List Nat} {n : Nat} {t : List Nat} (h : uP 0 0 bs = .inr (n, t)) : t.length ≤ bs.length ∧ ∀ x ∈ t, x ∈ bs := by
  obtain ⟨k, _, rfl⟩ := uP_suffix _ _ _ _ _ h
  exact ⟨by rw [List.length_drop]; omega, fun x hx => List.mem_of_mem_drop hx⟩
theorem sRaw_sub (bs : List Nat) : (sRaw (.inr bs)).1.length ≤ bs.length ∧ ∀ x ∈ (sRaw (.inr bs)).1, x ∈ bs := by
  cases h : uP 0 0 bs with
  | inl e => rw [sRaw_err (sU_err h)]; simp
  | inr p =>
    obtain ⟨n, t⟩ := p
    obtain ⟨h1, h2⟩ := uP_rest h
    by_cases hl : t.length < n
    · rw [sRaw_more (sU_ok h) hl]; simp
    · rw [sRaw_ok (sU_ok h) hl]
      exact ⟨by simp only [List.length_take]; omega, fun x hx => h2 x (List.mem_of_mem_take hx)⟩
theorem sRaw_len {bs : List Nat} {r : List Nat × RSt} (h : sRaw (.inr bs) = r) : r.1.length ≤ bs.length := by rw [← h]; exact (sRaw_sub bs).1
theorem sRaw_bytes {bs : List Nat} {r : List Nat × RSt} (h : sRaw (.inr bs) = r) (hb : Bytes bs) : Bytes r.1 := by rw [← h]; exact fun x hx => hb x ((sRaw_sub bs).2 x hx)
theorem sRaw_len' (bs : List Nat) (a : Nat) (er : Int) : (sRaw (stP bs a er)).1.length ≤ bs.length := by
  by_cases h : er = 0
  · rw [h, stP_ok]
    have := (sRaw_sub (bs.drop a)).1
    rw [List.length_drop] at this
    omega
  · rw [stP_err bs a h, sRaw_err (sU_inl er)]; simp
theorem sRaw_bytes' (bs : List Nat) (a : Nat) (er : Int) (hb : Bytes bs) : Bytes (sRaw (stP bs a er)).1 := by
  by_cases h : er = 0
  · rw [h, stP_ok]
    exact fun x hx => hb x (List.mem_of_mem_drop ((sRaw_sub (bs.drop a)).2 x hx))
  · rw [stP_err bs a h, sRaw_err (sU_inl er)]; exact fun x hx => by simp at hx
theorem ld5v' {ops : Array Oper} {rest : List Oper} {o : Oper} {a : Act} {w : World} {Q : Exit → Act → World → Prop} (T : TypeId) (hT : (Tryz.prog.info? T).map (·.size) = some 5) {d : TypeDesc} (hu : Tryz.prog.underlying T = some d) (hd : d.isRow = true) (x : Operand) (g : Nat) (c : Clm) (v : Value) (t : TypeId) (hgd : o.guard = none) (ho : o.op = .load T x)
    (hx : a.eval x = .pointer (some ⟨g, 0, none⟩)) (hb : Box w g t (cells5 c v).toArray)
    (h : wpList Tryz.prog ops Q rest (a.put o.dst (.agg #[.int .i64 c.1, .int .i64 c.2.1, .int .i64 c.2.2.1, .int .i64 c.2.2.2, v])) w) : wpList Tryz.prog ops Q (o :: rest) a w := ld5 T hT hu hd x g c v t hgd ho hx hb h
/- what Decode returns -/
def BDecPost (w : World) (o : Sum Int (Clm × List Clm)) (e : Ending) (w' : World) : Prop :=
  Grew w w' ∧
  match o with
  | .inl er => e = .returned (.tuple #[vbl zc (.slice none 0 0), .int .i64 er])
  | .inr (x, l) => ∃ v, e = .returned (.tuple #[vbl x v, .int .i64 0]) ∧ MineC w' w.heap.size v l
theorem decB_end {bs : List Nat} {r : List Nat × RSt} {u : Nat × RSt} (h1 : sRaw (.inr bs) = r) (h2 : sU r.2 = u) (h : sEnd u.2 ≠ 0) : decB bs = .inl 2 := by
  unfold decB; simp only [h1, h2]; rw [if_pos h]
theorem decB_sum {bs : List Nat} {r : List Nat × RSt} {u : Nat × RSt} (h1 : sRaw (.inr bs) = r) (h2 : sU r.2 = u) (h : sEnd u.2 = 0) (hs : u.1 ≠ hashB blockL r.1) : decB bs = .inl 11 := by
  unfold decB; simp only [h1, h2]; rw [if_neg (by simp [h]), if_pos hs]
theorem decB_in {bs : List Nat} {r : List Nat × RSt} {u : Nat × RSt} (h1 : sRaw (.inr bs) = r) (h2 : sU r.2 = u) (h : sEnd u.2 = 0) (hs : u.1 = hashB blockL r.1) : decB bs = inB r.1 := by
  unfold decB; simp only [h1, h2]; rw [if_neg (by simp [h]), if_neg (by simp [hs])]
section
variable {core : List Nat} {a b c d : Int × RSt} {r : List Nat × RSt} (h1 : sI (.inr core) = a) (h2 : sI a.2 = b) (h3 : sI b.2 = c) (h4 : sI c.2 = d) (h5 : sRaw d.2 = r)
include h1 h2 h3 h4 h5
theorem inB_end (h : sEnd r.2 ≠ 0) : inB core = .inl 2 := by
  unfold inB; simp only [h1, h2, h3, h4, h5]; rw [if_pos h]
theorem inB_none (h : sEnd r.2 = 0) (hd : refDecode r.1 = none) : inB core = .inl 2 := by
  unfold inB; simp only [h1, h2, h3, h4, h5]; rw [if_neg (by simp [h])]; simp only [hd]
theorem inB_bad {l : List Clm} (h : sEnd r.2 = 0) (hd : refDecode r.1 = some l) (hk : ¬ okB (a.1, b.1, c.1, d.1)) : inB core = .inl 1 := by
  unfold inB; simp only [h1, h2, h3, h4, h5]; rw [if_neg (by simp [h])]; simp only [hd]; rw [if_neg hk]
theorem inB_ok {l : List Clm} (h : sEnd r.2 = 0) (hd : refDecode r.1 = some l) (hk : okB (a.1, b.1, c.1, d.1)) : inB core = .inr ((a.1, b.1, c.1, d.1), l) := by
  unfold inB; simp only [h1, h2, h3, h4, h5]; rw [if_neg (by simp [h])]; simp only [hd]; rw [if_pos hk]
end
end Go.Proofs.YtgkmfblmkfclbaaGreatDoor
