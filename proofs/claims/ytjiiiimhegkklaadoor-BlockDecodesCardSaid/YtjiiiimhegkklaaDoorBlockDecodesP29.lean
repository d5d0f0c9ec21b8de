/- Chapter 18's generators: Made, Bent. block.Decode. -/
import Derived.Test.YtjiiiimhegkklaaDoorBlockDecodesP24
import Derived.Test.YtjiiiimhegkklaaDoorBlockDecodesP25
import Derived.Test.YtjiiiimhegkklaaDoorBlockDecodesP28
import Derived.Test.YtjiiiimhegkklaaDoorBlockDecodesP23
import Derived.Test.YtjiiiimhegkklaaDoorBlockDecodesP26
namespace Go.Proofs.YtjiiiimhegkklaaDoor
open Go.RowKit Pl

theorem get5_some (d : Clm) (v : Value) (k : Nat) (hk : k < 4) : ∃ n : Int, (cells5 d v).toArray[k]? = some (.int .i64 n) := by
  have : k = 0 ∨ k = 1 ∨ k = 2 ∨ k = 3 := by omega
  rcases this with rfl | rfl | rfl | rfl <;> exact ⟨_, rfl⟩
theorem Box.put1b {w : World} {g : Nat} {t : TypeId} {d : Clm} {v : Value} (h : Box w g t (cells5 d v).toArray) (k : Nat) (hk : k < 4) (n : Int) : Box (w.setCell ⟨g, k, none⟩ (.int .i64 n)) g t (cells5 (setC d k n) v).toArray := by
  have h1 := h.set_ k (.int .i64 n)
  have : k = 0 ∨ k = 1 ∨ k = 2 ∨ k = 3 := by omega
  rcases this with rfl | rfl | rfl | rfl <;> exact h1
/- one number of a block stored -/
theorem st1b {ops : Array Oper} {rest : List Oper} {o : Oper} {a : Act} {w : World} {Q : Exit → Act → World → Prop} (x y : Operand) (g k : Nat) (hk : k < 4) (n : Int) (d : Clm) (v : Value) (t : TypeId) (hgd : o.guard = none) (ho : o.op = .store 3 x y)
    (hx : a.eval x = .pointer (some ⟨g, k, none⟩)) (hy : a.eval y = .int .i64 n) (hb : Box w g t (cells5 d v).toArray)
    (h : ∀ w', Box w' g t (cells5 (setC d k n) v).toArray → Keeps (fun i => i = g) w w' → wpList Tryd.prog ops Q rest (a.put o.dst undef) w') : wpList Tryd.prog ops Q (o :: rest) a w := by
  obtain ⟨u, hu⟩ := get5_some d v k hk
  have hc := (hb.cell k).trans hu
  have hf := hb.frozen k
  have hk' : Keeps (fun i => i = g) w (w.setCell ⟨g, k, none⟩ (.int .i64 n)) := (Keeps.refl (fun i => i = g) w).setCell (p := ⟨g, k, none⟩) (.inl rfl) _
  refine wpList_plain hgd fun K hK => ?_
  unfold Oper.wp execOp
  simp only [ho, hx, hy]
  go_simp
  exact hK _ _ (h _ (hb.put1b k hk n) hk')
/- the claims of a block stored into its box -/
theorem stv5 {ops : Array Oper} {rest : List Oper} {o : Oper} {a : Act} {w : World} {Q : Exit → Act → World → Prop} (x y : Operand) (g : Nat) (A : Option Addr) (n c : Nat) (d : Clm) (v : Value) (t : TypeId) (hgd : o.guard = none) (ho : o.op = .store 25 x y)
    (hx : a.eval x = .pointer (some ⟨g, 4, none⟩)) (hy : a.eval y = .slice A n c) (hb : Box w g t (cells5 d v).toArray)
    (h : ∀ w', Box w' g t (cells5 d (.slice A n c)).toArray → Keeps (fun i => i = g) w w' → wpList Tryd.prog ops Q rest (a.put o.dst undef) w') : wpList Tryd.prog ops Q (o :: rest) a w := by
  have hc : w.cell? ⟨g, 4, none⟩ = some v := hb.cell 4
  have hf := hb.frozen 4
  have hk' : Keeps (fun i => i = g) w (w.setCell ⟨g, 4, none⟩ (.slice A n c)) := (Keeps.refl (fun i => i = g) w).setCell (p := ⟨g, 4, none⟩) (.inl rfl) _
  have hb' : Box (w.setCell ⟨g, 4, none⟩ (.slice A n c)) g t (cells5 d (.slice A n c)).toArray := hb.set_ 4 (.slice A n c)
  refine wpList_plain hgd fun K hK => ?_
  unfold Oper.wp execOp
  simp only [ho, hx, hy]
  go_simp
  exact hK _ _ (h _ hb' hk')
/- the numbers of a block that is made -/
def madeX (n : Int) : Clm :=
  if arnd (wrap64 (n.tdiv 5)) 5 = 0 then ((arnd n 5 : Nat), 0, 0, 0)
  else ((arnd n 5 : Nat), (arnd (wrap64 (n.tdiv 5)) 5 : Nat), 1 + (arnd (wrap64 (n.tdiv 25)) 4000 : Nat), (arnd (wrap64 (n.tdiv 7)) 1073741824 : Nat))
theorem madeX_ok (n : Int) : okB (madeX n) := by
  unfold madeX okB
  have h1 := arnd_lt n 5 (by omega)
  have h2 := arnd_lt (wrap64 (n.tdiv 5)) 5 (by omega)
  have h3 := arnd_lt (wrap64 (n.tdiv 25)) 4000 (by omega)
  have h4 := arnd_lt (wrap64 (n.tdiv 7)) 1073741824 (by omega)
  generalize arnd n 5 = a at *
  generalize arnd (wrap64 (n.tdiv 5)) 5 = k at *
  generalize arnd (wrap64 (n.tdiv 25)) 4000 = p at *
  generalize arnd (wrap64 (n.tdiv 7)) 1073741824 = c at *
  have : k = 0 ∨ k = 1 ∨ k = 2 ∨ k = 3 ∨ k = 4 := by omega
  rcases this with rfl | rfl | rfl | rfl | rfl <;> simp [pLo, pHi] <;> omega
set_option maxHeartbeats 6400000 in
set_option maxRecDepth 100000 in
theorem bent_any (x : Clm) (at_ n : Int) (A : Option Addr) (m c : Nat) (w : World) (ha : I64 at_) :
    Calls Tryd.prog 16 #[vbl x (.slice A m c), .int .i64 at_, .int .i64 n] w fun e w' => e = .returned (vbl (setC x (arnd at_ 4) n) (.slice A m c)) ∧ Grew w w' := by
  have HG := Lib.hid (((Grew.refl w).alloc (.cells (cells5 x (.slice A m c)).toArray 27)).alloc (.cells (cells5 zc (.slice none 0 0)).toArray 27))
  have HB := Lib.hid ((Box.new w 27 (cells5 x (.slice A m c)).toArray).alloc (.cells (cells5 zc (.slice none 0 0)).toArray 27))
  have HN := Lib.hid (Box.new (w.alloc (.cells (cells5 x (.slice A m c)).toArray 27)) 27 (cells5 zc (.slice none 0 0)).toArray)
  rw [World.size_alloc] at HN
  have HA := Lib.hid (fun w1 => arnd' at_ 4 w1 ha (by omega) (by omega))
  have hk := arnd_lt at_ 4 (by omega)
  obtain ⟨k, hkk⟩ : ∃ k, k = arnd at_ 4 := ⟨_, rfl⟩
  rw [← hkk] at hk ⊢
  have HKK := Lib.hid hkk
  clear hkk
  unfold vbl
  go_enter Tryd.func16, Tryd.ntmps16
  go_upto_region 1 with fail
  change Code.wp _ _ _ _ ((w.alloc (.cells (cells5 x (.slice A m c)).toArray 27)).alloc (.cells (cells5 zc (.slice none 0 0)).toArray 27))
  generalize (w.alloc (.cells (cells5 x (.slice A m c)).toArray 27)).alloc (.cells (cells5 zc (.slice none 0 0)).toArray 27) = w1 at *
  go_wp2_with fail
  refine (HA.out w1).mono ?_
  rintro e w' ⟨rfl, hw'⟩
  rw [hw']; clear hw' w'
  rw [show (4 : Int).toNat = 4 from rfl, ← HKK.out]
  clear HA
  have hcase : k = 0 ∨ k = 1 ∨ k = 2 ∨ k = 3 := by omega
  rcases hcase with rfl | rfl | rfl | rfl
  · go_wp2_with (first | (refine st1b (.tmp 14) (.tmp 13) w.heap.size 0 (by decide) n x (.slice A m c) 27 rfl rfl rfl rfl HB.out ?_; intro w2 hb2 hk2; have hn2 := HN.out.keep hk2 (by omega)) | (refine ld5 27 infoR Tryd.underlying27 rfl (.tmp 3) w.heap.size (setC x 0 n) (.slice A m c) 27 rfl rfl rfl hb2 ?_) | (refine st5 27 infoR (.tmp 6) (.tmp 23) (w.heap.size + 1) (setC x 0 n) zc (.slice A m c) (.slice none 0 0) 27 rfl rfl rfl rfl rfl hn2 ?_; intro w3 hb3 hk3))
    exact bodyPost_ret (v := vbl (setC x 0 n) (.slice A m c)) (results_cell5 rfl rfl infoR Tryd.underlying27 rfl hb3) rfl ⟨rfl, Keeps.then_ (Keeps.then_ HG.out hk2 (fun i hi e => by omega)) hk3 (fun i hi e => by omega)⟩
  · go_wp2_with (first | (refine st1b (.tmp 18) (.tmp 17) w.heap.size 1 (by decide) n x (.slice A m c) 27 rfl rfl rfl rfl HB.out ?_; intro w2 hb2 hk2; have hn2 := HN.out.keep hk2 (by omega)) | (refine ld5 27 infoR Tryd.underlying27 rfl (.tmp 3) w.heap.size (setC x 1 n) (.slice A m c) 27 rfl rfl rfl hb2 ?_) | (refine st5 27 infoR (.tmp 6) (.tmp 23) (w.heap.size + 1) (setC x 1 n) zc (.slice A m c) (.slice none 0 0) 27 rfl rfl rfl rfl rfl hn2 ?_; intro w3 hb3 hk3))
    exact bodyPost_ret (v := vbl (setC x 1 n) (.slice A m c)) (results_cell5 rfl rfl infoR Tryd.underlying27 rfl hb3) rfl ⟨rfl, Keeps.then_ (Keeps.then_ HG.out hk2 (fun i hi e => by omega)) hk3 (fun i hi e => by omega)⟩
  · go_wp2_with (first | (refine st1b (.tmp 22) (.tmp 21) w.heap.size 2 (by decide) n x (.slice A m c) 27 rfl rfl rfl rfl HB.out ?_; intro w2 hb2 hk2; have hn2 := HN.out.keep hk2 (by omega)) | (refine ld5 27 infoR Tryd.underlying27 rfl (.tmp 3) w.heap.size (setC x 2 n) (.slice A m c) 27 rfl rfl rfl hb2 ?_) | (refine st5 27 infoR (.tmp 6) (.tmp 23) (w.heap.size + 1) (setC x 2 n) zc (.slice A m c) (.slice none 0 0) 27 rfl rfl rfl rfl rfl hn2 ?_; intro w3 hb3 hk3))
    exact bodyPost_ret (v := vbl (setC x 2 n) (.slice A m c)) (results_cell5 rfl rfl infoR Tryd.underlying27 rfl hb3) rfl ⟨rfl, Keeps.then_ (Keeps.then_ HG.out hk2 (fun i hi e => by omega)) hk3 (fun i hi e => by omega)⟩
  · go_wp2_with (first | (refine st1b (.tmp 10) (.tmp 9) w.heap.size 3 (by decide) n x (.slice A m c) 27 rfl rfl rfl rfl HB.out ?_; intro w2 hb2 hk2; have hn2 := HN.out.keep hk2 (by omega)) | (refine ld5 27 infoR Tryd.underlying27 rfl (.tmp 3) w.heap.size (setC x 3 n) (.slice A m c) 27 rfl rfl rfl hb2 ?_) | (refine st5 27 infoR (.tmp 6) (.tmp 23) (w.heap.size + 1) (setC x 3 n) zc (.slice A m c) (.slice none 0 0) 27 rfl rfl rfl rfl rfl hn2 ?_; intro w3 hb3 hk3))
    exact bodyPost_ret (v := vbl (setC x 3 n) (.slice A m c)) (results_cell5 rfl rfl infoR Tryd.underlying27 rfl hb3) rfl ⟨rfl, Keeps.then_ (Keeps.then_ HG.out hk2 (fun i hi e => by omega)) hk3 (fun i hi e => by omega)⟩
/- a block made from numbers -/
def MadePost (X : Clm) (w : World) (e : Ending) (w' : World) : Prop :=
  ∃ v cs, e = .returned (vbl X v) ∧ MineC w' w.heap.size v cs ∧ (∀ c ∈ cs, okC c) ∧ cs.length ≤ 9 ∧ Grew w w'
set_option maxHeartbeats 6400000 in
set_option maxRecDepth 100000 in
theorem made_any (n : Int) (v : Value) (l : List Int) (w : World) (hn : I64 n) (h : Rd w w.heap.size v (l.map vi)) (hi : ∀ x ∈ l, I64 x) (hl : l.length ≤ 1000000000000000) :
    Calls Tryd.prog 15 #[.int .i64 n, v] w (MadePost (madeX n) w) := by
  have HG := Lib.hid ((Grew.refl w).alloc (.cells (cells5 zc (.slice none 0 0)).toArray 27))
  have HB := Lib.hid (Box.new w 27 (cells5 zc (.slice none 0 0)).toArray)
  have hsz : (w.alloc (.cells (cells5 zc (.slice none 0 0)).toArray 27)).heap.size = w.heap.size + 1 := by simp
  have HC := Lib.hid (claims_any v l (w.alloc (.cells (cells5 zc (.slice none 0 0)).toArray 27)) ((h.grew (Nat.le_refl _) HG.out).more (by omega)) hi hl)
  obtain ⟨A, m, c, rfl, hm, hc⟩ := h.form
  clear h hm hi
  have HA1 := Lib.hid (fun w1 => arnd' n 5 w1 hn (by omega) (by omega))
  have HA2 := Lib.hid (fun w1 => arnd' (wrap64 (n.tdiv 5)) 5 w1 (wrap_I64 _) (by omega) (by omega))
  have HA3 := Lib.hid (fun w1 => arnd' (wrap64 (n.tdiv 25)) 4000 w1 (wrap_I64 _) (by omega) (by omega))
  have HA4 := Lib.hid (fun w1 => arnd' (wrap64 (n.tdiv 7)) 1073741824 w1 (wrap_I64 _) (by omega) (by omega))
  have hk := arnd_lt (wrap64 (n.tdiv 5)) 5 (by omega)
  have hp := arnd_lt (wrap64 (n.tdiv 25)) 4000 (by omega)
  obtain ⟨X, hX⟩ : ∃ X, X = madeX n := ⟨_, rfl⟩
  rw [← hX]
  unfold madeX at hX
  have HX := Lib.hid hX
  clear hX
  go_enter Tryd.func15, Tryd.ntmps15
  go_upto_region 1 with fail
  change Code.wp _ _ _ _ (w.alloc (.cells (cells5 zc (.slice none 0 0)).toArray 27))
  generalize w.alloc (.cells (cells5 zc (.slice none 0 0)).toArray 27) = w1 at *
  go_wp2_with fail
  refine (HA1.out w1).mono ?_
  rintro e w' ⟨rfl, hw'⟩
  rw [hw']; clear hw' w'
  go_wp2_with fail
  refine (HA2.out w1).mono ?_
  rintro e w' ⟨rfl, hw'⟩
  rw [hw']; clear hw' w'
  rw [show (5 : Int).toNat = 5 from rfl]
  generalize arnd n 5 = s at *
  generalize arnd (wrap64 (n.tdiv 5)) 5 = k at *
  clear HA1 HA2
  go_wp2_with fail
  refine HC.out.mono ?_
  rintro e w2 ⟨v2, cs, rfl, q1, q2, q3, q4⟩
  obtain ⟨A2, m2, c2, rfl, -⟩ := q1.slice
  have hb2 := HB.out.grew q4
  have hG2 := HG.out.trans q4
  have hs2 := hG2.size
  have hO : ∀ i, (Value.slice A2 m2 c2).ownBlock = some i → i < w2.heap.size := fun i e => (q1.lt i e).2
  have hO0 : ∀ i, (Value.slice A2 m2 c2).ownBlock = some i → i ≠ w.heap.size := fun i e e2 => q1.ne_box e hb2 (by decide) e2
  have HO := Lib.hid hO
  have HO0 := Lib.hid hO0
  clear hO hO0 HC
  by_cases hk0 : k = 0
  · subst hk0
    rw [if_pos rfl] at HX
    have HXX := Lib.hid HX.out
    clear HX HA3 HA4
    go_wp2_with (first | (refine st5 27 infoR (.tmp 5) (.tmp 13) w2.heap.size ((s : Int), 0, 0, 0) zc (.slice A2 m2 c2) (.slice none 0 0) 27 rfl rfl rfl rfl rfl (Box.new w2 27 (cells5 zc (.slice none 0 0)).toArray) ?_; intro w3 hb3 hk3; obtain ⟨d0, d1, d2, d3, d4⟩ := hb3.five) | (refine ld5 27 infoR Tryd.underlying27 rfl (.tmp 5) w2.heap.size ((s : Int), 0, 0, 0) (.slice A2 m2 c2) 27 rfl rfl rfl hb3 ?_) | (refine st5 27 infoR (.tmp 4) (.tmp 26) w.heap.size ((s : Int), 0, 0, 0) zc (.slice A2 m2 c2) (.slice none 0 0) 27 rfl rfl rfl rfl rfl ((hb2.alloc _).keep hk3 (by have := hb2.lt; omega)) ?_; intro w4 hb4 hk4))
    have q1' := q1.alloc (.cells (cells5 zc (.slice none 0 0)).toArray 27)
    have m3 := q1'.keep hk3 (fun i e e2 => by have := HO.out i e; omega)
    have m4 := m3.keep hk4 (fun i e e2 => HO0.out i e e2)
    have hG3 : Grew w w3 := Keeps.then_ (hG2.alloc _) hk3 (fun i hi e => by omega)
    have hG4 : Grew w w4 := Keeps.then_ hG3 hk4 (fun i hi e => by omega)
    exact bodyPost_ret (v := vbl ((s : Int), 0, 0, 0) (.slice A2 m2 c2)) (results_cell5 rfl rfl infoR Tryd.underlying27 rfl hb4) rfl ⟨_, cs, by rw [HXX.out], m4.base_le (by omega), q2, q3, hG4⟩
  · rw [if_neg hk0] at HX
    have t0 : decide ((0 : Int) < (k : Int)) = true := by simp; omega
    have HXX := Lib.hid HX.out
    clear HX
    go_wp2_with (first | (refine st5 27 infoR (.tmp 5) (.tmp 13) w2.heap.size ((s : Int), (k : Int), 0, 0) zc (.slice A2 m2 c2) (.slice none 0 0) 27 rfl rfl rfl rfl rfl (Box.new w2 27 (cells5 zc (.slice none 0 0)).toArray) ?_; intro w3 hb3 hk3; obtain ⟨d0, d1, d2, d3, d4⟩ := hb3.five))
    have q1' := q1.alloc (.cells (cells5 zc (.slice none 0 0)).toArray 27)
    have m3 := q1'.keep hk3 (fun i e e2 => by have := HO.out i e; omega)
    have hG3 : Grew w w3 := Keeps.then_ (hG2.alloc _) hk3 (fun i hi e => by omega)
    have hb3' := (hb2.alloc (.cells (cells5 zc (.slice none 0 0)).toArray 27)).keep hk3 (by have := hb2.lt; omega)
    have hlt2 := hb2.lt
    clear hk3 q1' hG2 hb2 q1
    refine (HA3.out w3).mono ?_
    rintro e w' ⟨rfl, hw'⟩
    rw [hw']; clear hw' w'
    rw [show (4000 : Int).toNat = 4000 from rfl]
    clear HA3
    generalize arnd (wrap64 (n.tdiv 25)) 4000 = p at *
    go_wp2_with (first | (refine st1b (.tmp 21) (.tmp 20) w2.heap.size 2 (by decide) (1 + (p : Int)) ((s : Int), (k : Int), 0, 0) (.slice A2 m2 c2) 27 rfl rfl rfl rfl hb3 ?_; intro w4 hb4 hk4))
    have m4 := m3.keep hk4 (fun i e e2 => by have := HO.out i e; omega)
    have hG4 : Grew w w4 := Keeps.then_ hG3 hk4 (fun i hi e => by omega)
    have hb4' := hb3'.keep hk4 (by omega)
    clear hk4 m3 hG3 hb3' hb3 d0 d1 d2 d3 d4
    refine (HA4.out w4).mono ?_
    rintro e w' ⟨rfl, hw'⟩
    rw [hw']; clear hw' w'
    rw [show (1073741824 : Int).toNat = 1073741824 from rfl]
    generalize arnd (wrap64 (n.tdiv 7)) 1073741824 = co at *
    clear HA4
    go_wp2_with (first | (refine st1b (.tmp 25) (.tmp 24) w2.heap.size 3 (by decide) (co : Int) (setC ((s : Int), (k : Int), 0, 0) 2 (1 + (p : Int))) (.slice A2 m2 c2) 27 rfl rfl rfl rfl hb4 ?_; intro w5 hb5 hk5) | (refine ld5 27 infoR Tryd.underlying27 rfl (.tmp 5) w2.heap.size ((s : Int), (k : Int), 1 + (p : Int), (co : Int)) (.slice A2 m2 c2) 27 rfl rfl rfl hb5 ?_) | (refine st5 27 infoR (.tmp 4) (.tmp 26) w.heap.size ((s : Int), (k : Int), 1 + (p : Int), (co : Int)) zc (.slice A2 m2 c2) (.slice none 0 0) 27 rfl rfl rfl rfl rfl (hb4'.keep hk5 (by omega)) ?_; intro w6 hb6 hk6))
    have m5 := m4.keep hk5 (fun i e e2 => by have := HO.out i e; omega)
    have m6 := m5.keep hk6 (fun i e e2 => HO0.out i e e2)
    have hG5 : Grew w w5 := Keeps.then_ hG4 hk5 (fun i hi e => by omega)
    have hG6 : Grew w w6 := Keeps.then_ hG5 hk6 (fun i hi e => by omega)
    exact bodyPost_ret (v := vbl ((s : Int), (k : Int), 1 + (p : Int), (co : Int)) (.slice A2 m2 c2)) (results_cell5 rfl rfl infoR Tryd.underlying27 rfl hb6) rfl ⟨_, cs, by rw [HXX.out], m6.base_le (by omega), q2, q3, hG6⟩
end Go.Proofs.YtjiiiimhegkklaaDoor
namespace Go.Proofs.YtjiiiimhegkklaaDoor
open Go.RowKit Pl

theorem results_cell5_2 {fn : Func} {p q : Tmp} {ty : TypeId} (h : fn.results = #[.cell p ty, .tmp q]) {tmps : Array Value} {w : World} {g : Nat} {c : Clm} {v u : Value} {t : TypeId} (hp : tmps.getD p undef = .pointer (some ⟨g, 0, none⟩)) (hq : tmps.getD q undef = u) (hT : (Tryd.prog.info? ty).map (·.size) = some 5) {d : TypeDesc} (hu : Tryd.prog.underlying ty = some d) (hd : d.isRow = true) (hb : Box w g t (cells5 c v).toArray) :
    (results fn tmps).run Tryd.prog w = .ok (.tuple #[vbl c v, u]) w := by
  have hl := run_loadVar_mid (P := Tryd.prog) w g 0 ty (cells5 c v) d hb.range5 hu hd hT
  simp only [results, h]
  rw [Array.getD_eq_getD_getElem?] at hp hq
  simp [Sem.run_bind, hp, hq, Result.andThen, hl, asAddr, vbl_cells]
set_option maxHeartbeats 1600000 in
theorem readR_any (v : Value) (bs : List Nat) (w : World) (h : Rd w w.heap.size v (bs.map vb)) (hb : Bytes bs) (hl : bs.length ≤ 1000000) :
    Calls Tryd.prog 50 #[v] w fun e w' => ∃ g u, e = .returned (.pointer (some ⟨g, 0, none⟩)) ∧ WR w' w.heap.size g u bs 0 0 ∧ w.heap.size ≤ g ∧ Grew w w' := by
  have HC := Lib.hid (clone_any v bs w h (by omega))
  obtain ⟨A, n, c, rfl, hn, hc⟩ := h.form
  clear h hn
  go_enter Tryd.func50, Tryd.ntmps50
  go_wp2_with fail
  refine HC.out.mono ?_
  rintro e w2 ⟨v2, rfl, k1, k2⟩
  obtain ⟨A2, n2, c2, rfl, -⟩ := k1.slice
  have hs := k2.size
  go_wp2_with fail
  go_ret
  exact ⟨_, _, rfl, ⟨Box.new w2 131 _, k1.alloc _, hb, hl, Nat.zero_le _⟩, hs, k2.alloc _⟩
theorem uP_rest {bs : List Nat} {n : Nat} {t : List Nat} (h : uP 0 0 bs = .inr (n, t)) : t.length ≤ bs.length ∧ ∀ x ∈ t, x ∈ bs := by
  obtain ⟨k, _, rfl⟩ := uP_suffix _ _ _ _ _ h
  exact ⟨by rw [List.length_drop]; omega, fun x hx => List.mem_of_mem_drop hx⟩
theorem sRaw_sub (bs : List Nat) : (sRaw (.inr bs)).1.length ≤ bs.length ∧ ∀ x ∈ (sRaw (.inr bs)).1, x ∈ bs := by
  cases h : uP 0 0 bs with
  | inl e => rw [sRaw_err (sU_err h)]; simp
  | inr p =>
    obtain ⟨n, t⟩ := p
    obtain ⟨h1, h2⟩ := uP_rest h
    by_cases hl : t.length < n
    · rw [sRaw_more (sU_ok h) hl]; simp
    · rw [sRaw_ok (sU_ok h) hl]
      exact ⟨by simp only [List.length_take]; omega, fun x hx => h2 x (List.mem_of_mem_take hx)⟩
theorem sRaw_len {bs : List Nat} {r : List Nat × RSt} (h : sRaw (.inr bs) = r) : r.1.length ≤ bs.length := by rw [← h]; exact (sRaw_sub bs).1
theorem sRaw_bytes {bs : List Nat} {r : List Nat × RSt} (h : sRaw (.inr bs) = r) (hb : Bytes bs) : Bytes r.1 := by rw [← h]; exact fun x hx => hb x ((sRaw_sub bs).2 x hx)
theorem sRaw_len' (bs : List Nat) (a : Nat) (er : Int) : (sRaw (stP bs a er)).1.length ≤ bs.length := by
  by_cases h : er = 0
  · rw [h, stP_ok]
    have := (sRaw_sub (bs.drop a)).1
    rw [List.length_drop] at this
    omega
  · rw [stP_err bs a h, sRaw_err (sU_inl er)]; simp
theorem sRaw_bytes' (bs : List Nat) (a : Nat) (er : Int) (hb : Bytes bs) : Bytes (sRaw (stP bs a er)).1 := by
  by_cases h : er = 0
  · rw [h, stP_ok]
    exact fun x hx => hb x (List.mem_of_mem_drop ((sRaw_sub (bs.drop a)).2 x hx))
  · rw [stP_err bs a h, sRaw_err (sU_inl er)]; exact fun x hx => by simp at hx
theorem ld5v' {ops : Array Oper} {rest : List Oper} {o : Oper} {a : Act} {w : World} {Q : Exit → Act → World → Prop} (T : TypeId) (hT : (Tryd.prog.info? T).map (·.size) = some 5) {d : TypeDesc} (hu : Tryd.prog.underlying T = some d) (hd : d.isRow = true) (x : Operand) (g : Nat) (c : Clm) (v : Value) (t : TypeId) (hgd : o.guard = none) (ho : o.op = .load T x)
    (hx : a.eval x = .pointer (some ⟨g, 0, none⟩)) (hb : Box w g t (cells5 c v).toArray)
    (h : wpList Tryd.prog ops Q rest (a.put o.dst (.agg #[.int .i64 c.1, .int .i64 c.2.1, .int .i64 c.2.2.1, .int .i64 c.2.2.2, v])) w) : wpList Tryd.prog ops Q (o :: rest) a w := ld5 T hT hu hd x g c v t hgd ho hx hb h
/- what Decode returns -/
def BDecPost (w : World) (o : Sum Int (Clm × List Clm)) (e : Ending) (w' : World) : Prop :=
  Grew w w' ∧
  match o with
  | .inl er => e = .returned (.tuple #[vbl zc (.slice none 0 0), .int .i64 er])
  | .inr (x, l) => ∃ v, e = .returned (.tuple #[vbl x v, .int .i64 0]) ∧ MineC w' w.heap.size v l
theorem decB_end {bs : List Nat} {r : List Nat × RSt} {u : Nat × RSt} (h1 : sRaw (.inr bs) = r) (h2 : sU r.2 = u) (h : sEnd u.2 ≠ 0) : decB bs = .inl 2 := by
  unfold decB; simp only [h1, h2]; rw [if_pos h]
theorem decB_sum {bs : List Nat} {r : List Nat × RSt} {u : Nat × RSt} (h1 : sRaw (.inr bs) = r) (h2 : sU r.2 = u) (h : sEnd u.2 = 0) (hs : u.1 ≠ hashB blockL r.1) : decB bs = .inl 11 := by
  unfold decB; simp only [h1, h2]; rw [if_neg (by simp [h]), if_pos hs]
theorem decB_in {bs : List Nat} {r : List Nat × RSt} {u : Nat × RSt} (h1 : sRaw (.inr bs) = r) (h2 : sU r.2 = u) (h : sEnd u.2 = 0) (hs : u.1 = hashB blockL r.1) : decB bs = inB r.1 := by
  unfold decB; simp only [h1, h2]; rw [if_neg (by simp [h]), if_neg (by simp [hs])]
section
variable {core : List Nat} {a b c d : Int × RSt} {r : List Nat × RSt} (h1 : sI (.inr core) = a) (h2 : sI a.2 = b) (h3 : sI b.2 = c) (h4 : sI c.2 = d) (h5 : sRaw d.2 = r)
include h1 h2 h3 h4 h5
theorem inB_end (h : sEnd r.2 ≠ 0) : inB core = .inl 2 := by
  unfold inB; simp only [h1, h2, h3, h4, h5]; rw [if_pos h]
theorem inB_none (h : sEnd r.2 = 0) (hd : refDecode r.1 = none) : inB core = .inl 2 := by
  unfold inB; simp only [h1, h2, h3, h4, h5]; rw [if_neg (by simp [h])]; simp only [hd]
theorem inB_bad {l : List Clm} (h : sEnd r.2 = 0) (hd : refDecode r.1 = some l) (hk : ¬ okB (a.1, b.1, c.1, d.1)) : inB core = .inl 1 := by
  unfold inB; simp only [h1, h2, h3, h4, h5]; rw [if_neg (by simp [h])]; simp only [hd]; rw [if_neg hk]
theorem inB_ok {l : List Clm} (h : sEnd r.2 = 0) (hd : refDecode r.1 = some l) (hk : okB (a.1, b.1, c.1, d.1)) : inB core = .inr ((a.1, b.1, c.1, d.1), l) := by
  unfold inB; simp only [h1, h2, h3, h4, h5]; rw [if_neg (by simp [h])]; simp only [hd]; rw [if_pos hk]
end
end Go.Proofs.YtjiiiimhegkklaaDoor
