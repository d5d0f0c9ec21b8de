/- Chapter 18's generators: Made, Bent. The plain law of the hash: words of bytes, and how they are mixed. hash.mix. -/
import Derived.Test.YtjiiiimhegkklaaDoorBlockEqualP17
import Derived.Test.YtjiiiimhegkklaaDoorBlockEqualP20
import Derived.Test.YtjiiiimhegkklaaDoorBlockEqualP23
import Derived.Test.YtjiiiimhegkklaaDoorBlockEqualP04
import Derived.Test.YtjiiiimhegkklaaDoorProg
import Derived.Test.YtjiiiimhegkklaaDoorBlockEqualP05
namespace Go.Proofs.YtjiiiimhegkklaaDoor
open Go.RowKit Pl

theorem get5_some (d : Clm) (v : Value) (k : Nat) (hk : k < 4) : ∃ n : Int, (cells5 d v).toArray[k]? = some (.int .i64 n) := by
  have : k = 0 ∨ k = 1 ∨ k = 2 ∨ k = 3 := by omega
  rcases this with rfl | rfl | rfl | rfl <;> exact ⟨_, rfl⟩
theorem Box.put1b {w : World} {g : Nat} {t : TypeId} {d : Clm} {v : Value} (h : Box w g t (cells5 d v).toArray) (k : Nat) (hk : k < 4) (n : Int) : Box (w.setCell ⟨g, k, none⟩ (.int .i64 n)) g t (cells5 (setC d k n) v).toArray := by
  have h1 := h.set_ k (.int .i64 n)
  have : k = 0 ∨ k = 1 ∨ k = 2 ∨ k = 3 := by omega
  rcases this with rfl | rfl | rfl | rfl <;> exact h1
/- one number of a block stored -/
theorem st1b {ops : Array Oper} {rest : List Oper} {o : Oper} {a : Act} {w : World} {Q : Exit → Act → World → Prop} (x y : Operand) (g k : Nat) (hk : k < 4) (n : Int) (d : Clm) (v : Value) (t : TypeId) (hgd : o.guard = none) (ho : o.op = .store 3 x y)
    (hx : a.eval x = .pointer (some ⟨g, k, none⟩)) (hy : a.eval y = .int .i64 n) (hb : Box w g t (cells5 d v).toArray)
    (h : ∀ w', Box w' g t (cells5 (setC d k n) v).toArray → Keeps (fun i => i = g) w w' → wpList Tryd.prog ops Q rest (a.put o.dst undef) w') : wpList Tryd.prog ops Q (o :: rest) a w := by
  obtain ⟨u, hu⟩ := get5_some d v k hk
  have hc := (hb.cell k).trans hu
  have hf := hb.frozen k
  have hk' : Keeps (fun i => i = g) w (w.setCell ⟨g, k, none⟩ (.int .i64 n)) := (Keeps.refl (fun i => i = g) w).setCell (p := ⟨g, k, none⟩) (.inl rfl) _
  refine wpList_plain hgd fun K hK => ?_
  unfold Oper.wp execOp
  simp only [ho, hx, hy]
  go_simp
  exact hK _ _ (h _ (hb.put1b k hk n) hk')
/- the claims of a block stored into its box -/
theorem stv5 {ops : Array Oper} {rest : List Oper} {o : Oper} {a : Act} {w : World} {Q : Exit → Act → World → Prop} (x y : Operand) (g : Nat) (A : Option Addr) (n c : Nat) (d : Clm) (v : Value) (t : TypeId) (hgd : o.guard = none) (ho : o.op = .store 25 x y)
    (hx : a.eval x = .pointer (some ⟨g, 4, none⟩)) (hy : a.eval y = .slice A n c) (hb : Box w g t (cells5 d v).toArray)
    (h : ∀ w', Box w' g t (cells5 d (.slice A n c)).toArray → Keeps (fun i => i = g) w w' → wpList Tryd.prog ops Q rest (a.put o.dst undef) w') : wpList Tryd.prog ops Q (o :: rest) a w := by
  have hc : w.cell? ⟨g, 4, none⟩ = some v := hb.cell 4
  have hf := hb.frozen 4
  have hk' : Keeps (fun i => i = g) w (w.setCell ⟨g, 4, none⟩ (.slice A n c)) := (Keeps.refl (fun i => i = g) w).setCell (p := ⟨g, 4, none⟩) (.inl rfl) _
  have hb' : Box (w.setCell ⟨g, 4, none⟩ (.slice A n c)) g t (cells5 d (.slice A n c)).toArray := hb.set_ 4 (.slice A n c)
  refine wpList_plain hgd fun K hK => ?_
  unfold Oper.wp execOp
  simp only [ho, hx, hy]
  go_simp
  exact hK _ _ (h _ hb' hk')
/- the numbers of a block that is made -/
def madeX (n : Int) : Clm :=
  if arnd (wrap64 (n.tdiv 5)) 5 = 0 then ((arnd n 5 : Nat), 0, 0, 0)
  else ((arnd n 5 : Nat), (arnd (wrap64 (n.tdiv 5)) 5 : Nat), 1 + (arnd (wrap64 (n.tdiv 25)) 4000 : Nat), (arnd (wrap64 (n.tdiv 7)) 1073741824 : Nat))
theorem madeX_ok (n : Int) : okB (madeX n) := by
  unfold madeX okB
  have h1 := arnd_lt n 5 (by omega)
  have h2 := arnd_lt (wrap64 (n.tdiv 5)) 5 (by omega)
  have h3 := arnd_lt (wrap64 (n.tdiv 25)) 4000 (by omega)
  have h4 := arnd_lt (wrap64 (n.tdiv 7)) 1073741824 (by omega)
  generalize arnd n 5 = a at *
  generalize arnd (wrap64 (n.tdiv 5)) 5 = k at *
  generalize arnd (wrap64 (n.tdiv 25)) 4000 = p at *
  generalize arnd (wrap64 (n.tdiv 7)) 1073741824 = c at *
  have : k = 0 ∨ k = 1 ∨ k = 2 ∨ k = 3 ∨ k = 4 := by omega
  rcases this with rfl | rfl | rfl | rfl | rfl <;> simp [pLo, pHi] <;> omega
set_option maxHeartbeats 6400000 in
set_option maxRecDepth 100000 in
theorem bent_any (x : Clm) (at_ n : Int) (A : Option Addr) (m c : Nat) (w : World) (ha : I64 at_) :
    Calls Tryd.prog 16 #[vbl x (.slice A m c), .int .i64 at_, .int .i64 n] w fun e w' => e = .returned (vbl (setC x (arnd at_ 4) n) (.slice A m c)) ∧ Grew w w' := by
  have HG := Lib.hid (((Grew.refl w).alloc (.cells (cells5 x (.slice A m c)).toArray 27)).alloc (.cells (cells5 zc (.slice none 0 0)).toArray 27))
  have HB := Lib.hid ((Box.new w 27 (cells5 x (.slice A m c)).toArray).alloc (.cells (cells5 zc (.slice none 0 0)).toArray 27))
  have HN := Lib.hid (Box.new (w.alloc (.cells (cells5 x (.slice A m c)).toArray 27)) 27 (cells5 zc (.slice none 0 0)).toArray)
  rw [World.size_alloc] at HN
  have HA := Lib.hid (fun w1 => arnd' at_ 4 w1 ha (by omega) (by omega))
  have hk := arnd_lt at_ 4 (by omega)
  obtain ⟨k, hkk⟩ : ∃ k, k = arnd at_ 4 := ⟨_, rfl⟩
  rw [← hkk] at hk ⊢
  have HKK := Lib.hid hkk
  clear hkk
  unfold vbl
  go_enter Tryd.func16, Tryd.ntmps16
  go_upto_region 1 with fail
  change Code.wp _ _ _ _ ((w.alloc (.cells (cells5 x (.slice A m c)).toArray 27)).alloc (.cells (cells5 zc (.slice none 0 0)).toArray 27))
  generalize (w.alloc (.cells (cells5 x (.slice A m c)).toArray 27)).alloc (.cells (cells5 zc (.slice none 0 0)).toArray 27) = w1 at *
  go_wp2_with fail
  refine (HA.out w1).mono ?_
  rintro e w' ⟨rfl, hw'⟩
  rw [hw']; clear hw' w'
  rw [show (4 : Int).toNat = 4 from rfl, ← HKK.out]
  clear HA
  have hcase : k = 0 ∨ k = 1 ∨ k = 2 ∨ k = 3 := by omega
  rcases hcase with rfl | rfl | rfl | rfl
  · go_wp2_with (first | (refine st1b (.tmp 14) (.tmp 13) w.heap.size 0 (by decide) n x (.slice A m c) 27 rfl rfl rfl rfl HB.out ?_; intro w2 hb2 hk2; have hn2 := HN.out.keep hk2 (by omega)) | (refine ld5 27 infoR Tryd.underlying27 rfl (.tmp 3) w.heap.size (setC x 0 n) (.slice A m c) 27 rfl rfl rfl hb2 ?_) | (refine st5 27 infoR (.tmp 6) (.tmp 23) (w.heap.size + 1) (setC x 0 n) zc (.slice A m c) (.slice none 0 0) 27 rfl rfl rfl rfl rfl hn2 ?_; intro w3 hb3 hk3))
    exact bodyPost_ret (v := vbl (setC x 0 n) (.slice A m c)) (results_cell5 rfl rfl infoR Tryd.underlying27 rfl hb3) rfl ⟨rfl, Keeps.then_ (Keeps.then_ HG.out hk2 (fun i hi e => by omega)) hk3 (fun i hi e => by omega)⟩
  · go_wp2_with (first | (refine st1b (.tmp 18) (.tmp 17) w.heap.size 1 (by decide) n x (.slice A m c) 27 rfl rfl rfl rfl HB.out ?_; intro w2 hb2 hk2; have hn2 := HN.out.keep hk2 (by omega)) | (refine ld5 27 infoR Tryd.underlying27 rfl (.tmp 3) w.heap.size (setC x 1 n) (.slice A m c) 27 rfl rfl rfl hb2 ?_) | (refine st5 27 infoR (.tmp 6) (.tmp 23) (w.heap.size + 1) (setC x 1 n) zc (.slice A m c) (.slice none 0 0) 27 rfl rfl rfl rfl rfl hn2 ?_; intro w3 hb3 hk3))
    exact bodyPost_ret (v := vbl (setC x 1 n) (.slice A m c)) (results_cell5 rfl rfl infoR Tryd.underlying27 rfl hb3) rfl ⟨rfl, Keeps.then_ (Keeps.then_ HG.out hk2 (fun i hi e => by omega)) hk3 (fun i hi e => by omega)⟩
  · go_wp2_with (first | (refine st1b (.tmp 22) (.tmp 21) w.heap.size 2 (by decide) n x (.slice A m c) 27 rfl rfl rfl rfl HB.out ?_; intro w2 hb2 hk2; have hn2 := HN.out.keep hk2 (by omega)) | (refine ld5 27 infoR Tryd.underlying27 rfl (.tmp 3) w.heap.size (setC x 2 n) (.slice A m c) 27 rfl rfl rfl hb2 ?_) | (refine st5 27 infoR (.tmp 6) (.tmp 23) (w.heap.size + 1) (setC x 2 n) zc (.slice A m c) (.slice none 0 0) 27 rfl rfl rfl rfl rfl hn2 ?_; intro w3 hb3 hk3))
    exact bodyPost_ret (v := vbl (setC x 2 n) (.slice A m c)) (results_cell5 rfl rfl infoR Tryd.underlying27 rfl hb3) rfl ⟨rfl, Keeps.then_ (Keeps.then_ HG.out hk2 (fun i hi e => by omega)) hk3 (fun i hi e => by omega)⟩
  · go_wp2_with (first | (refine st1b (.tmp 10) (.tmp 9) w.heap.size 3 (by decide) n x (.slice A m c) 27 rfl rfl rfl rfl HB.out ?_; intro w2 hb2 hk2; have hn2 := HN.out.keep hk2 (by omega)) | (refine ld5 27 infoR Tryd.underlying27 rfl (.tmp 3) w.heap.size (setC x 3 n) (.slice A m c) 27 rfl rfl rfl hb2 ?_) | (refine st5 27 infoR (.tmp 6) (.tmp 23) (w.heap.size + 1) (setC x 3 n) zc (.slice A m c) (.slice none 0 0) 27 rfl rfl rfl rfl rfl hn2 ?_; intro w3 hb3 hk3))
    exact bodyPost_ret (v := vbl (setC x 3 n) (.slice A m c)) (results_cell5 rfl rfl infoR Tryd.underlying27 rfl hb3) rfl ⟨rfl, Keeps.then_ (Keeps.then_ HG.out hk2 (fun i hi e => by omega)) hk3 (fun i hi e => by omega)⟩
/- a block made from numbers -/
def MadePost (X : Clm) (w : World) (e : Ending) (w' : World) : Prop :=
  ∃ v cs, e = .returned (vbl X v) ∧ MineC w' w.heap.size v cs ∧ (∀ c ∈ cs, okC c) ∧ cs.length ≤ 9 ∧ Grew w w'
set_option maxHeartbeats 6400000 in
set_option maxRecDepth 100000 in
theorem made_any (n : Int) (v : Value) (l : List Int) (w : World) (hn : I64 n) (h : Rd w w.heap.size v (l.map vi)) (hi : ∀ x ∈ l, I64 x) (hl : l.length ≤ 1000000000000000) :
    Calls Tryd.prog 15 #[.int .i64 n, v] w (MadePost (madeX n) w) := by
  have HG := Lib.hid ((Grew.refl w).alloc (.cells (cells5 zc (.slice none 0 0)).toArray 27))
  have HB := Lib.hid (Box.new w 27 (cells5 zc (.slice none 0 0)).toArray)
  have hsz : (w.alloc (.cells (cells5 zc (.slice none 0 0)).toArray 27)).heap.size = w.heap.size + 1 := by simp
  have HC := Lib.hid (claims_any v l (w.alloc (.cells (cells5 zc (.slice none 0 0)).toArray 27)) ((h.grew (Nat.le_refl _) HG.out).more (by omega)) hi hl)
  obtain ⟨A, m, c, rfl, hm, hc⟩ := h.form
  clear h hm hi
  have HA1 := Lib.hid (fun w1 => arnd' n 5 w1 hn (by omega) (by omega))
  have HA2 := Lib.hid (fun w1 => arnd' (wrap64 (n.tdiv 5)) 5 w1 (wrap_I64 _) (by omega) (by omega))
  have HA3 := Lib.hid (fun w1 => arnd' (wrap64 (n.tdiv 25)) 4000 w1 (wrap_I64 _) (by omega) (by omega))
  have HA4 := Lib.hid (fun w1 => arnd' (wrap64 (n.tdiv 7)) 1073741824 w1 (wrap_I64 _) (by omega) (by omega))
  have hk := arnd_lt (wrap64 (n.tdiv 5)) 5 (by omega)
  have hp := arnd_lt (wrap64 (n.tdiv 25)) 4000 (by omega)
  obtain ⟨X, hX⟩ : ∃ X, X = madeX n := ⟨_, rfl⟩
  rw [← hX]
  unfold madeX at hX
  have HX := Lib.hid hX
  clear hX
  go_enter Tryd.func15, Tryd.ntmps15
  go_upto_region 1 with fail
  change Code.wp _ _ _ _ (w.alloc (.cells (cells5 zc (.slice none 0 0)).toArray 27))
  generalize w.alloc (.cells (cells5 zc (.slice none 0 0)).toArray 27) = w1 at *
  go_wp2_with fail
  refine (HA1.out w1).mono ?_
  rintro e w' ⟨rfl, hw'⟩
  rw [hw']; clear hw' w'
  go_wp2_with fail
  refine (HA2.out w1).mono ?_
  rintro e w' ⟨rfl, hw'⟩
  rw [hw']; clear hw' w'
  rw [show (5 : Int).toNat = 5 from rfl]
  generalize arnd n 5 = s at *
  generalize arnd (wrap64 (n.tdiv 5)) 5 = k at *
  clear HA1 HA2
  go_wp2_with fail
  refine HC.out.mono ?_
  rintro e w2 ⟨v2, cs, rfl, q1, q2, q3, q4⟩
  obtain ⟨A2, m2, c2, rfl, -⟩ := q1.slice
  have hb2 := HB.out.grew q4
  have hG2 := HG.out.trans q4
  have hs2 := hG2.size
  have hO : ∀ i, (Value.slice A2 m2 c2).ownBlock = some i → i < w2.heap.size := fun i e => (q1.lt i e).2
  have hO0 : ∀ i, (Value.slice A2 m2 c2).ownBlock = some i → i ≠ w.heap.size := fun i e e2 => q1.ne_box e hb2 (by decide) e2
  have HO := Lib.hid hO
  have HO0 := Lib.hid hO0
  clear hO hO0 HC
  by_cases hk0 : k = 0
  · subst hk0
    rw [if_pos rfl] at HX
    have HXX := Lib.hid HX.out
    clear HX HA3 HA4
    go_wp2_with (first | (refine st5 27 infoR (.tmp 5) (.tmp 13) w2.heap.size ((s : Int), 0, 0, 0) zc (.slice A2 m2 c2) (.slice none 0 0) 27 rfl rfl rfl rfl rfl (Box.new w2 27 (cells5 zc (.slice none 0 0)).toArray) ?_; intro w3 hb3 hk3; obtain ⟨d0, d1, d2, d3, d4⟩ := hb3.five) | (refine ld5 27 infoR Tryd.underlying27 rfl (.tmp 5) w2.heap.size ((s : Int), 0, 0, 0) (.slice A2 m2 c2) 27 rfl rfl rfl hb3 ?_) | (refine st5 27 infoR (.tmp 4) (.tmp 26) w.heap.size ((s : Int), 0, 0, 0) zc (.slice A2 m2 c2) (.slice none 0 0) 27 rfl rfl rfl rfl rfl ((hb2.alloc _).keep hk3 (by have := hb2.lt; omega)) ?_; intro w4 hb4 hk4))
    have q1' := q1.alloc (.cells (cells5 zc (.slice none 0 0)).toArray 27)
    have m3 := q1'.keep hk3 (fun i e e2 => by have := HO.out i e; omega)
    have m4 := m3.keep hk4 (fun i e e2 => HO0.out i e e2)
    have hG3 : Grew w w3 := Keeps.then_ (hG2.alloc _) hk3 (fun i hi e => by omega)
    have hG4 : Grew w w4 := Keeps.then_ hG3 hk4 (fun i hi e => by omega)
    exact bodyPost_ret (v := vbl ((s : Int), 0, 0, 0) (.slice A2 m2 c2)) (results_cell5 rfl rfl infoR Tryd.underlying27 rfl hb4) rfl ⟨_, cs, by rw [HXX.out], m4.base_le (by omega), q2, q3, hG4⟩
  · rw [if_neg hk0] at HX
    have t0 : decide ((0 : Int) < (k : Int)) = true := by simp; omega
    have HXX := Lib.hid HX.out
    clear HX
    go_wp2_with (first | (refine st5 27 infoR (.tmp 5) (.tmp 13) w2.heap.size ((s : Int), (k : Int), 0, 0) zc (.slice A2 m2 c2) (.slice none 0 0) 27 rfl rfl rfl rfl rfl (Box.new w2 27 (cells5 zc (.slice none 0 0)).toArray) ?_; intro w3 hb3 hk3; obtain ⟨d0, d1, d2, d3, d4⟩ := hb3.five))
    have q1' := q1.alloc (.cells (cells5 zc (.slice none 0 0)).toArray 27)
    have m3 := q1'.keep hk3 (fun i e e2 => by have := HO.out i e; omega)
    have hG3 : Grew w w3 := Keeps.then_ (hG2.alloc _) hk3 (fun i hi e => by omega)
    have hb3' := (hb2.alloc (.cells (cells5 zc (.slice none 0 0)).toArray 27)).keep hk3 (by have := hb2.lt; omega)
    have hlt2 := hb2.lt
    clear hk3 q1' hG2 hb2 q1
    refine (HA3.out w3).mono ?_
    rintro e w' ⟨rfl, hw'⟩
    rw [hw']; clear hw' w'
    rw [show (4000 : Int).toNat = 4000 from rfl]
    clear HA3
    generalize arnd (wrap64 (n.tdiv 25)) 4000 = p at *
    go_wp2_with (first | (refine st1b (.tmp 21) (.tmp 20) w2.heap.size 2 (by decide) (1 + (p : Int)) ((s : Int), (k : Int), 0, 0) (.slice A2 m2 c2) 27 rfl rfl rfl rfl hb3 ?_; intro w4 hb4 hk4))
    have m4 := m3.keep hk4 (fun i e e2 => by have := HO.out i e; omega)
    have hG4 : Grew w w4 := Keeps.then_ hG3 hk4 (fun i hi e => by omega)
    have hb4' := hb3'.keep hk4 (by omega)
    clear hk4 m3 hG3 hb3' hb3 d0 d1 d2 d3 d4
    refine (HA4.out w4).mono ?_
    rintro e w' ⟨rfl, hw'⟩
    rw [hw']; clear hw' w'
    rw [show (1073741824 : Int).toNat = 1073741824 from rfl]
    generalize arnd (wrap64 (n.tdiv 7)) 1073741824 = co at *
    clear HA4
    go_wp2_with (first | (refine st1b (.tmp 25) (.tmp 24) w2.heap.size 3 (by decide) (co : Int) (setC ((s : Int), (k : Int), 0, 0) 2 (1 + (p : Int))) (.slice A2 m2 c2) 27 rfl rfl rfl rfl hb4 ?_; intro w5 hb5 hk5) | (refine ld5 27 infoR Tryd.underlying27 rfl (.tmp 5) w2.heap.size ((s : Int), (k : Int), 1 + (p : Int), (co : Int)) (.slice A2 m2 c2) 27 rfl rfl rfl hb5 ?_) | (refine st5 27 infoR (.tmp 4) (.tmp 26) w.heap.size ((s : Int), (k : Int), 1 + (p : Int), (co : Int)) zc (.slice A2 m2 c2) (.slice none 0 0) 27 rfl rfl rfl rfl rfl (hb4'.keep hk5 (by omega)) ?_; intro w6 hb6 hk6))
    have m5 := m4.keep hk5 (fun i e e2 => by have := HO.out i e; omega)
    have m6 := m5.keep hk6 (fun i e e2 => HO0.out i e e2)
    have hG5 : Grew w w5 := Keeps.then_ hG4 hk5 (fun i hi e => by omega)
    have hG6 : Grew w w6 := Keeps.then_ hG5 hk6 (fun i hi e => by omega)
    exact bodyPost_ret (v := vbl ((s : Int), (k : Int), 1 + (p : Int), (co : Int)) (.slice A2 m2 c2)) (results_cell5 rfl rfl infoR Tryd.underlying27 rfl hb6) rfl ⟨_, cs, by rw [HXX.out], m6.base_le (by omega), q2, q3, hG6⟩
end Go.Proofs.YtjiiiimhegkklaaDoor
namespace Go.Proofs.YtjiiiimhegkklaaDoor.Pl
open Go.RowKit

def mixN (s w : Nat) : Nat := ((s ^^^ w) * 11400714819323198485 % 18446744073709551616) ^^^ ((s ^^^ w) * 11400714819323198485 % 18446744073709551616 / 4294967296)
theorem mixN_lt (s w : Nat) : mixN s w < 18446744073709551616 := by
  unfold mixN
  generalize (s ^^^ w) * 11400714819323198485 = m
  have h1 : m % 18446744073709551616 < 2 ^ 64 := by omega
  have h2 : m % 18446744073709551616 / 4294967296 < 2 ^ 64 := by omega
  have := Nat.xor_lt_two_pow h1 h2
  omega
/- bytes, the least significant first -/
def leN : List Nat → Nat
  | [] => 0
  | x :: l => x + 256 * leN l
theorem leN_lt (l : List Nat) (h : Bytes l) : leN l < 256 ^ l.length := by
  induction l with
  | nil => simp [leN]
  | cons x l ih =>
    have h1 := h x (by simp)
    have h2 := ih (fun y hy => h y (by simp [hy]))
    rw [leN, List.length_cons, Nat.pow_succ]
    omega
theorem leN_snoc (l : List Nat) (x : Nat) : leN (l ++ [x]) = leN l + x * 256 ^ l.length := by
  induction l with
  | nil => simp [leN]
  | cons y l ih =>
    rw [List.cons_append, leN, leN, ih, List.length_cons, Nat.pow_succ, Nat.mul_add, ← Nat.add_assoc]
    congr 1
    rw [← Nat.mul_assoc, Nat.mul_comm 256 x, Nat.mul_assoc, Nat.mul_comm 256]
def chunk (bs : List Nat) (i : Nat) : List Nat := (bs.drop (8 * i)).take 8
theorem chunk_le (bs : List Nat) (i : Nat) : (chunk bs i).length ≤ 8 := List.length_take_le _ _
theorem chunk_length (bs : List Nat) (i : Nat) : (chunk bs i).length = min 8 (bs.length - 8 * i) := by unfold chunk; rw [List.length_take, List.length_drop]
theorem chunk_bytes {bs : List Nat} (h : Bytes bs) (i : Nat) : Bytes (chunk bs i) := fun x hx => h x (List.mem_of_mem_drop (List.mem_of_mem_take hx))
theorem chunk_lt {bs : List Nat} (h : Bytes bs) (i : Nat) : leN (chunk bs i) < 18446744073709551616 := by
  have h1 := leN_lt _ (chunk_bytes h i)
  have h2 : 256 ^ (chunk bs i).length ≤ 256 ^ 8 := Nat.pow_le_pow_right (by omega) (chunk_le bs i)
  have h3 : (256 : Nat) ^ 8 = 18446744073709551616 := by decide
  omega
def nwords (bs : List Nat) : Nat := (bs.length + 7) / 8
def words (bs : List Nat) : List Nat := (List.range (nwords bs)).map fun i => leN (chunk bs i)
theorem words_length (bs : List Nat) : (words bs).length = nwords bs := by simp [words]
theorem words_lt {bs : List Nat} (h : Bytes bs) : ∀ x ∈ words bs, x < 18446744073709551616 := fun x hx => by
  unfold words at hx
  obtain ⟨i, _, rfl⟩ := List.mem_map.1 hx
  exact chunk_lt h i
theorem words_take (bs : List Nat) (j : Nat) (hj : j < nwords bs) : (words bs).take (j + 1) = (words bs).take j ++ [leN (chunk bs j)] := by
  rw [List.take_succ_eq_append_getElem (by rw [words_length]; exact hj)]
  simp [words]
theorem chunk_take (bs : List Nat) (i t : Nat) (ht : t < 8) (h : 8 * i + t < bs.length) : (chunk bs i).take (t + 1) = (chunk bs i).take t ++ [bs.getD (8 * i + t) 0] := by
  have e : (chunk bs i)[t]? = some (bs.getD (8 * i + t) 0) := by
    unfold chunk
    rw [List.getElem?_take, if_pos ht, List.getElem?_drop, List.getD_eq_getElem?_getD, List.getElem?_eq_getElem h]
    rfl
  rw [List.take_add_one, e]
  rfl
theorem or_shift (a x k : Nat) (h : a < 2 ^ k) : a ||| (x * 2 ^ k) = a + x * 2 ^ k := by
  have := Nat.shiftLeft_add_eq_or_of_lt h x
  rw [Nat.shiftLeft_eq] at this
  rw [Nat.or_comm, ← this, Nat.add_comm]
/- the hash of a label and words; of a label and bytes -/
def mixAll (s : Nat) (l : List Nat) : Nat := l.foldl mixN s
theorem mixAll_nil (s : Nat) : mixAll s [] = s := by unfold mixAll; rw [List.foldl_nil]
theorem mixAll_snoc (s : Nat) (l : List Nat) (x : Nat) : mixAll s (l ++ [x]) = mixN (mixAll s l) x := by
  unfold mixAll
  rw [List.foldl_append, List.foldl_cons, List.foldl_nil]
def hashSum (label ws : List Nat) : Nat := mixN (mixAll (mixN (mixN (mixAll 0 (words label)) label.length) ws.length) ws) 0
def hashB (label bs : List Nat) : Nat := hashSum label (words bs ++ [bs.length])
theorem hashB_lt (label bs : List Nat) : hashB label bs < 18446744073709551616 := mixN_lt _ _
end Go.Proofs.YtjiiiimhegkklaaDoor.Pl
namespace Go.Proofs.YtjiiiimhegkklaaDoor
open Go.RowKit Pl

set_option maxRecDepth 100000 in
theorem mix_any (s x : Nat) (w : World) (hs : s < 18446744073709551616) (hx : x < 18446744073709551616) :
    Calls Tryd.prog 123 #[.int .u64 (s : Nat), .int .u64 (x : Nat)] w fun e w' => e = .returned (.int .u64 (mixN s x : Nat)) ∧ w = w' := by
  have h1 := u64_xor_nat s x hs hx
  have hf : bits BinOp.xor IntKind.u64 (((s ^^^ x : Nat) : Int) * 11400714819323198485 % 18446744073709551616) (((s ^^^ x : Nat) : Int) * 11400714819323198485 % 18446744073709551616 / 4294967296) = ((mixN s x : Nat) : Int) := by
    unfold mixN
    generalize s ^^^ x = y
    have e1 : (y : Int) * 11400714819323198485 % 18446744073709551616 = ((y * 11400714819323198485 % 18446744073709551616 : Nat) : Int) := by omega
    rw [e1]
    have hm : y * 11400714819323198485 % 18446744073709551616 < 18446744073709551616 := by omega
    generalize y * 11400714819323198485 % 18446744073709551616 = m at *
    have e2 : (m : Int) / 4294967296 = ((m / 4294967296 : Nat) : Int) := by omega
    rw [e2, u64_xor_nat _ _ hm (by omega)]
  have HF := Lib.hid hf
  clear hf
  go_enter Tryd.func123, Tryd.ntmps123
  go_wp2_with fail
  go_ret
  exact ⟨by rw [← HF.out]; rfl, rfl⟩
end Go.Proofs.YtjiiiimhegkklaaDoor
