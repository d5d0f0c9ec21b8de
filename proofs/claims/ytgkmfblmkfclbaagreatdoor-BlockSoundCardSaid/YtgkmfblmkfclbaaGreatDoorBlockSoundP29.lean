/- envelope.bound: the bounds that the declared range and the claims imply. -/
import Derived.Test.YtgkmfblmkfclbaaGreatDoorBlockSoundP25
import Derived.Test.YtgkmfblmkfclbaaGreatDoorBlockSoundP28
import Derived.Test.YtgkmfblmkfclbaaGreatDoorBlockSoundP09
import Derived.StillTailTactics
import Derived.Deep.DeepCutAuto
import Derived.Deep.CutBlock
namespace Go.Proofs.YtgkmfblmkfclbaaGreatDoor
open Go.RowKit Pl

/- the two rows, the declaration's box and the result's box -/
structure BSt (w wr : World) (g1 g2 gd gr N c1 c2 : Nat) (nm : ByteArray) (A : Option Addr) (n c : Nat) (x : Fin 10 → Int) (e : EnvL) : Prop where
  lo : Mine wr w.heap.size 3 (.slice (some ⟨g1, 0, none⟩) N c1) (e.1.map vi)
  hi : Mine wr w.heap.size 3 (.slice (some ⟨g2, 0, none⟩) N c2) (e.2.map vi)
  ne : g1 ≠ g2
  dbox : Box wr gd 27 (cells12 nm (.slice A n c) x).toArray
  rbox : Box wr gr 32 (cells3 0 (.slice none 0 0) (.slice none 0 0)).toArray
  grew : Grew w wr
section
variable {w wr w' : World} {g1 g2 gd gr N c1 c2 : Nat} {nm : ByteArray} {A : Option Addr} {n c : Nat} {x : Fin 10 → Int} {e : EnvL}
theorem BSt.more (h : BSt w wr g1 g2 gd gr N c1 c2 nm A n c x e) (k : Grew wr w') : BSt w w' g1 g2 gd gr N c1 c2 nm A n c x e :=
  ⟨h.lo.grew k, h.hi.grew k, h.ne, h.dbox.grew k, h.rbox.grew k, h.grew.trans k⟩
theorem BSt.blo (h : BSt w wr g1 g2 gd gr N c1 c2 nm A n c x e) : w.heap.size ≤ g1 ∧ g1 < wr.heap.size := h.lo.lt g1 rfl
theorem BSt.bhi (h : BSt w wr g1 g2 gd gr N c1 c2 nm A n c x e) : w.heap.size ≤ g2 ∧ g2 < wr.heap.size := h.hi.lt g2 rfl
theorem BSt.len (h : BSt w wr g1 g2 gd gr N c1 c2 nm A n c x e) : e.1.length = N ∧ e.2.length = N := by
  have a := h.lo.len
  have b := h.hi.len
  rw [List.length_map] at a b
  exact ⟨a.symm, b.symm⟩
theorem BSt.stLo (h : BSt w wr g1 g2 gd gr N c1 c2 nm A n c x e) {k : Nat} {y : Int} (hm : Mine w' w.heap.size 3 (.slice (some ⟨g1, 0, none⟩) N c1) ((e.1.map vi).set k (.int .i64 y))) (hk : Keeps (fun i => i = g1) wr w') :
    BSt w w' g1 g2 gd gr N c1 c2 nm A n c x (e.1.set k y, e.2) := by
  refine ⟨?_, h.hi.keep hk (fun i hi e => ?_), h.ne, h.dbox.keep hk (fun e => h.lo.ne_box rfl h.dbox (by decide) e.symm), h.rbox.keep hk (fun e => h.lo.ne_box rfl h.rbox (by decide) e.symm), Keeps.then_ h.grew hk (fun i hi e => by have := h.blo; omega)⟩
  · rw [List.map_set]; exact hm
  · have : g2 = i := by simpa [Value.ownBlock] using hi
    subst this
    exact h.ne e.symm
theorem BSt.stHi (h : BSt w wr g1 g2 gd gr N c1 c2 nm A n c x e) {k : Nat} {y : Int} (hm : Mine w' w.heap.size 3 (.slice (some ⟨g2, 0, none⟩) N c2) ((e.2.map vi).set k (.int .i64 y))) (hk : Keeps (fun i => i = g2) wr w') :
    BSt w w' g1 g2 gd gr N c1 c2 nm A n c x (e.1, e.2.set k y) := by
  refine ⟨h.lo.keep hk (fun i hi e => ?_), ?_, h.ne, h.dbox.keep hk (fun e => h.hi.ne_box rfl h.dbox (by decide) e.symm), h.rbox.keep hk (fun e => h.hi.ne_box rfl h.rbox (by decide) e.symm), Keeps.then_ h.grew hk (fun i hi e => by have := h.bhi; omega)⟩
  · have : g1 = i := by simpa [Value.ownBlock] using hi
    subst this
    exact h.ne e
  · rw [List.map_set]; exact hm
theorem BSt.cells (h : BSt w wr g1 g2 gd gr N c1 c2 nm A n c x e) {k : Nat} (hk : k < N) : wr.cell? ⟨g1, k, none⟩ = some (.int .i64 (e.1.getD k 0)) ∧ wr.cell? ⟨g2, k, none⟩ = some (.int .i64 (e.2.getD k 0)) := by
  obtain ⟨l1, l2⟩ := h.len
  have a := (h.lo.cell_at (k := k) (by rw [List.length_map, l1]; exact hk)).1
  have b := (h.hi.cell_at (k := k) (by rw [List.length_map, l2]; exact hk)).1
  rw [List.getElem_map] at a b
  rw [List.getD_eq_getElem?_getD, List.getElem?_eq_getElem (by omega), List.getD_eq_getElem?_getD, List.getElem?_eq_getElem (by omega)]
  exact ⟨a, b⟩
theorem BSt.two (h : BSt w wr g1 g2 gd gr N c1 c2 nm A n c x e) {k : Nat} (hk : k < N) (y1 y2 : Int) :
    BSt w (((wr.setCell ⟨g1, k, none⟩ (.int .i64 y1)).setCell ⟨g2, k, none⟩ (.int .i64 y2)).drew) g1 g2 gd gr N c1 c2 nm A n c x (e.1.set k y1, e.2.set k y2) := by
  obtain ⟨l1, l2⟩ := h.len
  have a1 := h.stLo (k := k) (y := y1) (h.lo.store (g := g1) rfl (by rw [List.length_map, l1]; exact hk) _) ((Keeps.refl (fun i => i = g1) wr).setCell (p := ⟨g1, k, none⟩) (.inl rfl) _)
  have a2 := a1.stHi (k := k) (y := y2) (a1.hi.store (g := g2) rfl (by rw [List.length_map]; show k < e.2.length; omega) _) ((Keeps.refl (fun i => i = g2) _).setCell (p := ⟨g2, k, none⟩) (.inl rfl) _)
  exact a2.more (Keeps.drew (Grew.refl _))
theorem BSt.nums (h : BSt w wr g1 g2 gd gr N c1 c2 nm A n c x e) : wr.cell? ⟨gd, 7, none⟩ = some (.int .i64 (x 5)) ∧ wr.cell? ⟨gd, 8, none⟩ = some (.int .i64 (x 6)) ∧ wr.cell? ⟨gd, 9, none⟩ = some (.int .i64 (x 7)) := ⟨h.dbox.cell 7, h.dbox.cell 8, h.dbox.cell 9⟩
end
theorem source_any (nm : ByteArray) (A : Option Addr) (n c : Nat) (x : Fin 10 → Int) (v : Value) (cs : List Clm) (k : Nat) (w : World) (hk : k ≤ cs.length) (hr : RdC w w.heap.size v cs) (hl : cs.length ≤ 1000000) :
    Calls Tryz.prog 50 #[vdecl nm (.slice A n c) x, v, .int .i64 ((k : Int) - 1)] w fun e w' => e = .returned (vc ((claim0 x :: cs).getD k zc)) ∧ Grew w w' := by
  rcases k with _ | k
  · obtain ⟨B, m, q, rfl, -, -⟩ := hr.form
    exact source0_any nm A n c x B m q w
  · have h := sourceK_any nm A n c x v cs k w (by omega) hr hl
    rw [show (((k + 1 : Nat) : Int) - 1) = ((k : Nat) : Int) by omega]
    simpa using h
theorem claim0_valid {x : Fin 10 → Int} (h : GoodD x) : ValidC x (claim0 x) := by
  have h1 := h.last
  have h2 := h.lo
  have h3 := h.hi
  have h4 := h.hi2
  exact ⟨by simp [claim0], by simpa [claim0] using h1, by simp [claim0], by simp [claim0]; omega, by simpa [claim0] using h3, by simp [claim0]; omega⟩
theorem stepF_one (dn up : Int) (E : EnvL) (s : Nat) : [s + 1].foldl (stepF dn up) E = (E.1.set (s + 1) (max (E.1.getD (s + 1) 0) (wrap64 (E.1.getD s 0 + dn))), E.2.set (s + 1) (min (E.2.getD (s + 1) 0) (wrap64 (E.2.getD s 0 + up)))) := by
  simp only [List.foldl_cons, List.foldl_nil, stepF, Nat.add_sub_cancel]
theorem stepB_one (dn up : Int) (E : EnvL) (s : Nat) : [s].foldl (stepB dn up) E = (E.1.set s (max (E.1.getD s 0) (wrap64 (E.1.getD (s + 1) 0 - up))), E.2.set s (min (E.2.getD s 0) (wrap64 (E.2.getD (s + 1) 0 - dn)))) := by
  simp only [List.foldl_cons, List.foldl_nil, stepB]
set_option maxHeartbeats 12800000 in
set_option maxRecDepth 100000 in
theorem ebound_any (nm : ByteArray) (A : Option Addr) (n c : Nat) (x : Fin 10 → Int) (v : Value) (cs : List Clm) (w : World) (hx : GoodD x) (hr : RdC w w.heap.size v cs) (hv : ∀ c ∈ cs, ValidC x c) (hl : cs.length ≤ 4096) :
    Calls Tryz.prog 22 #[vdecl nm (.slice A n c) x, v, .int .i64 (-1), .int .i64 ((cs.length : Int) - 1)] w fun e w' => ∃ B p C q, e = .returned (venv (x 7) (.slice B (spanD x) p) (.slice C (spanD x) q)) ∧
      Mine w' w.heap.size 3 (.slice B (spanD x) p) ((boundE x (spanD x) cs).1.map vi) ∧ Mine w' w.heap.size 3 (.slice C (spanD x) q) ((boundE x (spanD x) cs).2.map vi) ∧ Grew w w' := by
  have HX := Lib.hid hx
  have HR := Lib.hid hr
  have HV := Lib.hid hv
  obtain ⟨hs1, hs2⟩ := spanD_le hx
  have HSE := Lib.hid (spanD_eq hx)
  have HSp := Lib.hid (fun w' => span_any nm A n c x w' hx)
  obtain ⟨Av, m, q, rfl, hm, -⟩ := hr.form
  have HM := Lib.hid hm
  have hml : m ≤ 4096 := by omega
  rw [← hm]
  obtain ⟨mm, hmm⟩ : ∃ mm : Int, (m : Int) - 1 = mm := ⟨_, rfl⟩
  rw [hmm]
  have HMM := Lib.hid hmm
  have mm1 : -1 ≤ mm := by omega
  have mm2 : mm ≤ 5000 := by omega
  clear hx hr hv hm hmm
  have hbd : Box ((w.alloc (.cells (cells12 nm (.slice A n c) x).toArray 27)).alloc (.cells #[.int .i64 0, .slice none 0 0, .slice none 0 0] 32)) w.heap.size 27 (cells12 nm (.slice A n c) x).toArray := (Box.new _ _ _).alloc _
  have hbr : Box ((w.alloc (.cells (cells12 nm (.slice A n c) x).toArray 27)).alloc (.cells #[.int .i64 0, .slice none 0 0, .slice none 0 0] 32)) (w.alloc (.cells (cells12 nm (.slice A n c) x).toArray 27)).heap.size 32 (cells3 0 (.slice none 0 0) (.slice none 0 0)).toArray := Box.new _ _ _
  rw [World.size_alloc] at hbr
  have hG0 := ((Grew.refl w).alloc (.cells (cells12 nm (.slice A n c) x).toArray 27)).alloc (.cells #[.int .i64 0, .slice none 0 0, .slice none 0 0] 32)
  rw [vdecl_cells]
  rw [vdecl_cells] at HSp
  go_enter Tryz.func22, Tryz.ntmps22
  go_upto_region 1 with fail
  generalize (w.alloc (.cells (cells12 nm (.slice A n c) x).toArray 27)).alloc (.cells #[.int .i64 0, .slice none 0 0, .slice none 0 0] 32) = w1 at *
  go_wp2_with (refine ldN 27 Tryz.underlying27 rfl (.tmp 4) w.heap.size (cells12 nm (.slice A n c) x) 27 info12 rfl rfl rfl hbd ?_)
  refine (HSp.out w1).mono ?_
  rintro e w2 ⟨rfl, k2⟩
  have hbd2 := hbd.grew k2
  have hbr2 := hbr.grew k2
  have hG2 := hG0.trans k2
  clear hbd hbr hG0 k2
  generalize hNN : spanD x = N at *
  have HNN := Lib.hid hNN
  clear hNN
  have HRp := Lib.hid (fun (y : Int) (w' : World) => repeat_any _ y N (w'.alloc (.cells #[.int .i64 y] 3)) ((Rd.laid w' 3 [.int .i64 y]).more (by simp)) (by omega))
  go_wp2_with fail
  refine (HRp.out _ w2).mono ?_
  rintro e w3 ⟨v3, rfl, m3, k3⟩
  obtain ⟨g1, c1, rfl⟩ : ∃ g1 c1, v3 = .slice (some ⟨g1, 0, none⟩) N c1 := by
    rcases m3.form with ⟨rfl, h⟩ | ⟨g, cap, cur, rfl, -⟩
    · rw [List.replicate_eq_nil_iff] at h; omega
    · exact ⟨g, cap, by simp⟩
  have g23 : Grew w2 w3 := ((Grew.refl w2).alloc _).trans k3
  have m3' := m3.base_le (base' := w.heap.size) (by have := hG2.size; simp; omega)
  have hbd3 := hbd2.grew g23
  have hbr3 := hbr2.grew g23
  have hG3 := hG2.trans g23
  clear m3 k3 g23 hbd2 hbr2 hG2
  go_wp2_with fail
  refine (HRp.out _ w3).mono ?_
  rintro e w4 ⟨v4, rfl, m4, k4⟩
  obtain ⟨g2, c2, rfl⟩ : ∃ g2 c2, v4 = .slice (some ⟨g2, 0, none⟩) N c2 := by
    rcases m4.form with ⟨rfl, h⟩ | ⟨g, cap, cur, rfl, -⟩
    · rw [List.replicate_eq_nil_iff] at h; omega
    · exact ⟨g, cap, by simp⟩
  have g34 : Grew w3 w4 := ((Grew.refl w3).alloc _).trans k4
  have hne : g1 ≠ g2 := by
    have h1 := (m3'.lt g1 rfl).2
    have h2 := (m4.lt g2 rfl).1
    simp at h2
    omega
  have hSt : BSt w w4 g1 g2 w.heap.size (w.heap.size + 1) N c1 c2 nm A n c x (List.replicate N (-1125899906842624), List.replicate N 1125899906842624) :=
    ⟨by simpa [vi] using m3'.grew g34, by simpa [vi] using m4.base_le (base' := w.heap.size) (by have := hG3.size; simp; omega), hne, hbd3.grew g34, hbr3.grew g34, hG3.trans g34⟩
  clear m3' m4 k4 g34 hne hbd3 hbr3 hG3 HRp
  obtain ⟨e0, he0⟩ : ∃ e0 : EnvL, e0 = (List.replicate N (-1125899906842624), List.replicate N 1125899906842624) := ⟨_, rfl⟩
  rw [← he0] at hSt
  have HE0 := Lib.hid he0
  have HSt := Lib.hid hSt
  clear he0 hSt
  go_wp2_with fail
  go_loopw [12] (fun i wr => ∃ (k : Nat) (z : Int) (e : EnvL), z = (k : Int) - 1 ∧ k ≤ m + 1 ∧ i = .int .i64 z ∧ e = takeIn (x 7) ((claim0 x :: cs).take k) e0 ∧ BSt w wr g1 g2 w.heap.size (w.heap.size + 1) N c1 c2 nm A n c x e) (fun i _ => m + 1 - (intOf i + 1).toNat)
  case atStart => exact ⟨0, -1, e0, by omega, by omega, rfl, rfl, HSt.out⟩
  case round =>
    clear HSt
    obtain ⟨k, z, e, hz, hk, rfl, he, hS⟩ := hrel
    by_cases hlt : k < m + 1
    · have HZ := Lib.hid hz
      have zb1 : -1 ≤ z := by omega
      have zb2 : z ≤ 5000 := by omega
      have hkl : k < (claim0 x :: cs).length := by rw [List.length_cons, ← HM.out]; exact hlt
      have hvk : ValidC x ((claim0 x :: cs).getD k zc) := by
        rw [List.getD_eq_getElem?_getD, List.getElem?_eq_getElem hkl]
        have hmem := List.getElem_mem hkl
        rcases List.mem_cons.1 hmem with h | h
        · show ValidC x ((claim0 x :: cs)[k])
          rw [h]; exact claim0_valid HX.out
        · exact HV.out _ h
      have hSr := source_any nm A n c x _ cs k wr (by rw [← HM.out]; omega) ((HR.out.grew (Nat.le_refl _) hS.grew).more hS.grew.size) (by omega)
      have HTk := Lib.hid (takeIn_snoc (x 7) (claim0 x :: cs) k e0 hkl)
      rw [← he] at HTk
      have HE := Lib.hid he
      generalize (claim0 x :: cs).getD k zc = d at *
      rw [vdecl_cells, ← hz] at hSr
      have HSr := Lib.hid hSr
      obtain ⟨v1, v2, v3, v4, v5, v6⟩ := hvk
      have y7 := HX.out.first
      have y8 := HX.out.last2
      have hNx : d.2.1 - x 7 < (N : Int) := by have := HSE.out; omega
      have tk : decide (z ≤ mm) = true := by
        have := HMM.out
        simp; omega
      have hbd := hS.dbox
      clear hSr he hkl hz
      go_upto_region 6 with fail
      go_wp2_with (refine ldN 27 Tryz.underlying27 rfl (.tmp 4) w.heap.size (cells12 nm (.slice A n c) x) 27 info12 rfl rfl rfl hbd ?_)
      refine HSr.out.mono ?_
      rintro e' w5 ⟨rfl, k5⟩
      have hS5 := hS.more k5
      clear hS hbd HSr k5
      unfold vc
      go_upto_region 7 with (refine stN 82 (.tmp 13) (.tmp 34) w5.heap.size (cells4 d) (cells4 zc) 82 info4 rfl (by intro v hv; simp [cells4] at hv; rcases hv with rfl | rfl | rfl | rfl <;> rfl) rfl rfl rfl rfl (Box.new w5 82 (cells4 zc).toArray) ?_; intro w6 bx6 k6 d6)
      have k56 : Grew w5 w6 := Keeps.then_ ((Grew.refl w5).alloc _) k6 (fun i hi e => by omega)
      have hS6 := hS5.more k56
      clear hS5 k6 d6 k56
      obtain ⟨a, ha⟩ : ∃ a : Nat, (a : Int) = d.1 - x 7 := ⟨(d.1 - x 7).toNat, by omega⟩
      obtain ⟨L, hL⟩ : ∃ L : Nat, (L : Int) = d.2.1 - d.1 + 1 := ⟨(d.2.1 - d.1 + 1).toNat, by omega⟩
      have hAp : applyC (x 7) e d = (List.range' a L).foldl (stepC d) e := by
        unfold applyC ticks
        rw [show (d.1 - x 7).toNat = a by omega, show (d.2.1 - d.1 + 1).toNat = L by omega]
      have HAp := Lib.hid hAp
      obtain ⟨f0, f1, f2, f3⟩ := bx6.four
      obtain ⟨n5, n6, n7⟩ := hS6.nums
      have HS6 := Lib.hid hS6
      have HB6 := Lib.hid bx6
      clear hAp hS6 bx6
      go_wp2_with fail
      go_loopw [14] (fun i w' => ∃ (t : Nat), a ≤ t ∧ t ≤ a + L ∧ i = .int .i64 (t : Nat) ∧ BSt w w' g1 g2 w.heap.size (w.heap.size + 1) N c1 c2 nm A n c x ((List.range' a (t - a)).foldl (stepC d) e) ∧ Box w' w5.heap.size 82 (cells4 d).toArray) (fun i _ => a + L - (intOf i).toNat)
      case atStart => exact ⟨a, by omega, by omega, by rw [ha], by simpa using HS6.out, HB6.out⟩
      case round =>
        clear HS6 HB6 f0 f1 f2 f3 n5 n6 n7
        obtain ⟨t, ht1, ht2, rfl, hT, hB⟩ := hrel
        obtain ⟨f0, f1, f2, f3⟩ := hB.four
        obtain ⟨n5, n6, n7⟩ := hT.nums
        by_cases hlt2 : t < a + L
        · have tt : decide ((t : Int) ≤ d.2.1 - x 7) = true := by simp; omega
          have htN : t < N := by omega
          obtain ⟨q1, q2⟩ := hT.cells htN
          have z1 := (hT.lo.cell_at (k := t) (by rw [List.length_map, hT.len.1]; exact htN)).2
          have z2 := (hT.hi.cell_at (k := t) (by rw [List.length_map, hT.len.2]; exact htN)).2
          have hgne := hT.ne
          have hgne' : g2 ≠ g1 := Ne.symm hT.ne
          have o1 : g1 ≠ w5.heap.size := hT.lo.ne_box rfl hB (by decide)
          have o2 : g2 ≠ w5.heap.size := hT.hi.ne_box rfl hB (by decide)
          have o1' := o1.symm
          have o2' := o2.symm
          have i1 : (0 : Int) ≤ (t : Int) := by omega
          have i2 : (t : Int) < (N : Int) := by omega
          have HT := Lib.hid hT
          have HB := Lib.hid hB
          clear hT hB
          obtain ⟨E, hEE⟩ : ∃ E, (List.range' a (t - a)).foldl (stepC d) e = E := ⟨_, rfl⟩
          have HEE := Lib.hid hEE
          rw [hEE] at HT q1 q2
          obtain ⟨p1, hp1⟩ : ∃ p1, E.1.getD t 0 = p1 := ⟨_, rfl⟩
          obtain ⟨p2, hp2⟩ : ∃ p2, E.2.getD t 0 = p2 := ⟨_, rfl⟩
          have HP1 := Lib.hid hp1
          have HP2 := Lib.hid hp2
          rw [hp1] at q1
          rw [hp2] at q2
          clear hEE hp1 hp2
          go_upto_region 10 with fail
          clear f0 f1 n5 n6 n7
          go_region
          have hT2 := HT.out.two htN (if p1 < d.2.2.1 then d.2.2.1 else p1) (if d.2.2.2 < p2 then d.2.2.2 else p2)
          have hB2 : Box ((wr.setCell ⟨g1, t, none⟩ (.int .i64 (if p1 < d.2.2.1 then d.2.2.1 else p1))).setCell ⟨g2, t, none⟩ (.int .i64 (if d.2.2.2 < p2 then d.2.2.2 else p2))).drew w5.heap.size 82 (cells4 d).toArray := (HB.out.far (p := ⟨g1, t, none⟩) o1' _).far (p := ⟨g2, t, none⟩) o2' _
          generalize ((wr.setCell ⟨g1, t, none⟩ (.int .i64 (if p1 < d.2.2.1 then d.2.2.1 else p1))).setCell ⟨g2, t, none⟩ (.int .i64 (if d.2.2.2 < p2 then d.2.2.2 else p2))).drew = w7 at *
          rw [max_if, min_if, ← HP1.out, ← HP2.out] at hT2
          have HT2 := Lib.hid hT2
          have HB2 := Lib.hid hB2
          clear hT2 hB2
          go_wp2_with fail
          go_roundw
          case rel =>
            refine ⟨t + 1, by omega, by omega, by go_num, ?_, HB2.out⟩
            rw [range'_snoc a t ht1, List.foldl_append, HEE.out]
            exact HT2.out
          case measure => simp [intOf]; omega
        · have tt : decide ((t : Int) ≤ d.2.1 - x 7) = false := by simp; omega
          obtain rfl : t = a + L := by omega
          have hT' := hT
          rw [show a + L - a = L by omega, ← HAp.out, ← HTk.out] at hT'
          have HT := Lib.hid hT'
          clear hT hT'
          go_wp2_with fail
          go_roundw
          case rel => exact ⟨k + 1, z + 1, _, by have := HZ.out; omega, by omega, rfl, rfl, HT.out⟩
          case measure => have := HZ.out; simp [intOf]; omega
    · have hkm : k = m + 1 := by omega
      have he' := he
      rw [List.take_of_length_le (by rw [List.length_cons, ← HM.out]; omega)] at he'
      have HE := Lib.hid he'
      have HS := Lib.hid hS
      have tk : decide (z ≤ mm) = false := by
        have := HMM.out
        simp; omega
      clear he he' hS hk hlt hkm hz
      go_wp2_with fail
      go_loopw [15] (fun i wr => ∃ (s : Nat), s + 1 ≤ N ∧ i = .int .i64 ((s : Int) + 1) ∧ BSt w wr g1 g2 w.heap.size (w.heap.size + 1) N c1 c2 nm A n c x ((List.range' 1 s).foldl (stepF (x 5) (x 6)) e)) (fun i _ => N - (intOf i).toNat)
      case atStart => exact ⟨0, by omega, rfl, HS.out⟩
      case round =>
        clear HS
        obtain ⟨s, hs, rfl, hT⟩ := hrel
        by_cases hlt : s + 1 < N
        · have tt : decide ((s : Int) + 1 < (N : Int)) = true := by simp; omega
          obtain ⟨n5, n6, n7⟩ := hT.nums
          obtain ⟨q1, q2⟩ := hT.cells hlt
          obtain ⟨q3, q4⟩ := hT.cells (k := s) (by omega)
          have z1 := (hT.lo.cell_at (k := s + 1) (by rw [List.length_map, hT.len.1]; exact hlt)).2
          have z2 := (hT.hi.cell_at (k := s + 1) (by rw [List.length_map, hT.len.2]; exact hlt)).2
          have hgne := hT.ne
          have hgne' : g2 ≠ g1 := Ne.symm hT.ne
          have o1 : g1 ≠ w.heap.size := hT.lo.ne_box rfl hT.dbox (by decide)
          have o2 : g2 ≠ w.heap.size := hT.hi.ne_box rfl hT.dbox (by decide)
          have o1' := o1.symm
          have o2' := o2.symm
          have i1 : (0 : Int) ≤ (s : Int) := by omega
          have i2 : (s : Int) < (N : Int) := by omega
          have i3 : (0 : Int) ≤ (s : Int) + 1 := by omega
          have i4 : (s : Int) + 1 < (N : Int) := by omega
          have i5 : ((s : Int) + 1).toNat = s + 1 := by omega
          have w1 : IntKind.i64.wrap ((s : Int) + 1 - 1) = (s : Int) := by rw [IntWalk.i64_in _ (by omega)]; omega
          have w2 : IntKind.i64.wrap (s : Int) = (s : Int) := IntWalk.i64_in _ (by omega)
          have HT := Lib.hid hT
          clear hT n7
          obtain ⟨E, hEE⟩ : ∃ E, (List.range' 1 s).foldl (stepF (x 5) (x 6)) e = E := ⟨_, rfl⟩
          have HEE := Lib.hid hEE
          rw [hEE] at HT q1 q2 q3 q4
          obtain ⟨p1, hp1⟩ : ∃ p1, E.1.getD (s + 1) 0 = p1 := ⟨_, rfl⟩
          obtain ⟨p2, hp2⟩ : ∃ p2, E.2.getD (s + 1) 0 = p2 := ⟨_, rfl⟩
          obtain ⟨p3, hp3⟩ : ∃ p3, E.1.getD s 0 = p3 := ⟨_, rfl⟩
          obtain ⟨p4, hp4⟩ : ∃ p4, E.2.getD s 0 = p4 := ⟨_, rfl⟩
          have HP1 := Lib.hid hp1
          have HP2 := Lib.hid hp2
          have HP3 := Lib.hid hp3
          have HP4 := Lib.hid hp4
          rw [hp1] at q1
          rw [hp2] at q2
          rw [hp3] at q3
          rw [hp4] at q4
          clear hEE hp1 hp2 hp3 hp4
          go_upto_block 5 with fail
          go_cut [] (fun wx => BSt w wx g1 g2 w.heap.size (w.heap.size + 1) N c1 c2 nm A n c x ([s + 1].foldl (stepF (x 5) (x 6)) E))
          case first =>
            as_aux_lemma =>
              clear HX HV HR HM HMM HSE HSp HNN HE0 HE tk mm1 mm2 hml HEE
              go_upto_region 14 with fail
              go_region
              have hT2 := HT.out.two hlt (if p1 < wrap64 (p3 + x 5) then wrap64 (p3 + x 5) else p1) (if wrap64 (p4 + x 6) < p2 then wrap64 (p4 + x 6) else p2)
              generalize ((wr.setCell ⟨g1, s + 1, none⟩ (.int .i64 (if p1 < wrap64 (p3 + x 5) then wrap64 (p3 + x 5) else p1))).setCell ⟨g2, s + 1, none⟩ (.int .i64 (if wrap64 (p4 + x 6) < p2 then wrap64 (p4 + x 6) else p2))).drew = w7 at *
              rw [max_if, min_if, ← HP1.out, ← HP2.out, ← HP3.out, ← HP4.out, ← stepF_one] at hT2
              have HT3 := Lib.hid hT2
              clear hT2 q1 q2 q3 q4 z1 z2 n5 n6 w1 w2 i5 hgne hgne' o1 o2 o1' o2'
              generalize (if p1 < wrap64 (p3 + x 5) then wrap64 (p3 + x 5) else p1) = Y1
              generalize (if wrap64 (p4 + x 6) < p2 then wrap64 (p4 + x 6) else p2) = Y2
              generalize wrap64 (p3 + x 5) = f1
              generalize wrap64 (p4 + x 6) = f2
              as_aux_lemma =>
                go_wp2_with fail
                go_meet
                exact HT3.out
          case rest =>
            have HT2 := Lib.hid hcut
            clear hcut hgne hgne' o1 o2 o1' o2' q1 q2 q3 q4 z1 z2 n5 n6 w1 w2 i5
            go_wp2_with fail
            go_roundw
            case rel =>
              refine ⟨s + 1, by omega, by go_num, ?_⟩
              rw [show List.range' 1 (s + 1) = List.range' 1 s ++ [s + 1] from by have := range'_snoc 1 (s + 1) (by omega); simpa using this, List.foldl_append, HEE.out]
              exact HT2.out
            case measure => simp [intOf]; omega
        · have tt : decide ((s : Int) + 1 < (N : Int)) = false := by simp; omega
          have hsN : s = N - 1 := by omega
          obtain ⟨e2, he2⟩ : ∃ e2, passF (x 5) (x 6) N e = e2 := ⟨_, rfl⟩
          have HE2 := Lib.hid he2
          have hT' := hT
          rw [show (List.range' 1 s).foldl (stepF (x 5) (x 6)) e = e2 from by rw [hsN]; exact he2] at hT'
          have HT := Lib.hid hT'
          clear hT hT' he2 hsN
          have y1 : (2 : Int) ≤ (N : Int) + 1 := by omega
          go_wp2_with fail
          go_loopw [16] (fun i wr => ∃ (r : Nat) (z : Int), z = (r : Int) - 1 ∧ r ≤ N - 1 ∧ i = .int .i64 z ∧ BSt w wr g1 g2 w.heap.size (w.heap.size + 1) N c1 c2 nm A n c x (((List.range (N - 1)).reverse.take (N - 1 - r)).foldl (stepB (x 5) (x 6)) e2)) (fun i _ => (intOf i + 1).toNat)
          case atStart => exact ⟨N - 1, (N : Int) - 2, by omega, by omega, rfl, by simpa using HT.out⟩
          case round =>
            clear HT
            obtain ⟨r, z, hz, hr, rfl, hT⟩ := hrel
            rcases r with _ | s
            · obtain rfl : z = -1 := by omega
              have tt : decide ((0 : Int) ≤ -1) = false := by decide
              have hT' := hT
              rw [List.take_of_length_le (by simp)] at hT'
              have HT := Lib.hid hT'
              obtain ⟨n5, n6, n7⟩ := hT.nums
              clear hT hT' hz hr
              rw [show ((List.range (N - 1)).reverse).foldl (stepB (x 5) (x 6)) e2 = passB (x 5) (x 6) N (passF (x 5) (x 6) N e) from by rw [HE2.out]; rfl, HE.out, HE0.out] at HT
              have HT9 : BSt w wr g1 g2 w.heap.size (w.heap.size + 1) N c1 c2 nm A n c x (boundE x N cs) := HT.out
              have hrb := HT9.rbox
              have HT10 := Lib.hid HT9
              clear HT HT9
              go_wp2_with (refine stN 32 (.tmp 8) (.tmp 148) (w.heap.size + 1) (cells3 (x 7) (.slice (some ⟨g1, 0, none⟩) N c1) (.slice (some ⟨g2, 0, none⟩) N c2)) (cells3 0 (.slice none 0 0) (.slice none 0 0)) 32 (by kernel_rfl) rfl (by intro v hv; simp [cells3] at hv; rcases hv with rfl | rfl | rfl <;> rfl) rfl rfl rfl rfl hrb ?_; intro w9 bx9 k9 d9)
              refine bodyPost_ret (v := venv (x 7) (.slice (some ⟨g1, 0, none⟩) N c1) (.slice (some ⟨g2, 0, none⟩) N c2)) (results_cellN rfl rfl (by kernel_rfl) Tryz.underlying32 rfl bx9) rfl ?_
              rw [HNN.out]
              exact ⟨some ⟨g1, 0, none⟩, c1, some ⟨g2, 0, none⟩, c2, rfl, HT10.out.lo.keep k9 (fun i hi e => HT10.out.lo.ne_box hi hrb (by decide) e), HT10.out.hi.keep k9 (fun i hi e => HT10.out.hi.ne_box hi hrb (by decide) e), Keeps.then_ HT10.out.grew k9 (fun i hi e => by omega)⟩
            · have hs1 : s + 1 < N := by omega
              obtain rfl : z = (s : Int) := by omega
              clear hz
              have tt : decide ((0 : Int) ≤ (s : Int)) = true := by simp
              obtain ⟨n5, n6, n7⟩ := hT.nums
              obtain ⟨q1, q2⟩ := hT.cells (k := s) (by omega)
              obtain ⟨q3, q4⟩ := hT.cells hs1
              have z1 := (hT.lo.cell_at (k := s) (by rw [List.length_map, hT.len.1]; omega)).2
              have z2 := (hT.hi.cell_at (k := s) (by rw [List.length_map, hT.len.2]; omega)).2
              have hgne := hT.ne
              have hgne' : g2 ≠ g1 := Ne.symm hT.ne
              have o1 : g1 ≠ w.heap.size := hT.lo.ne_box rfl hT.dbox (by decide)
              have o2 : g2 ≠ w.heap.size := hT.hi.ne_box rfl hT.dbox (by decide)
              have o1' := o1.symm
              have o2' := o2.symm
              have i1 : (0 : Int) ≤ (s : Int) := by omega
              have i2 : (s : Int) < (N : Int) := by omega
              have i3 : (0 : Int) ≤ (s : Int) + 1 := by omega
              have i4 : (s : Int) + 1 < (N : Int) := by omega
              have i5 : ((s : Int) + 1).toNat = s + 1 := by omega
              have w2 : IntKind.i64.wrap ((s : Int) + 1) = (s : Int) + 1 := IntWalk.i64_in _ (by omega)
              have HT := Lib.hid hT
              have hST := rev_snoc (M := N - 1) (s := s) (by omega)
              have HST := Lib.hid hST
              clear hT n7 hST
              obtain ⟨E, hEE⟩ : ∃ E, ((List.range (N - 1)).reverse.take (N - 1 - (s + 1))).foldl (stepB (x 5) (x 6)) e2 = E := ⟨_, rfl⟩
              have HEE := Lib.hid hEE
              rw [hEE] at HT q1 q2 q3 q4
              obtain ⟨p1, hp1⟩ : ∃ p1, E.1.getD s 0 = p1 := ⟨_, rfl⟩
              obtain ⟨p2, hp2⟩ : ∃ p2, E.2.getD s 0 = p2 := ⟨_, rfl⟩
              obtain ⟨p3, hp3⟩ : ∃ p3, E.1.getD (s + 1) 0 = p3 := ⟨_, rfl⟩
              obtain ⟨p4, hp4⟩ : ∃ p4, E.2.getD (s + 1) 0 = p4 := ⟨_, rfl⟩
              have HP1 := Lib.hid hp1
              have HP2 := Lib.hid hp2
              have HP3 := Lib.hid hp3
              have HP4 := Lib.hid hp4
              rw [hp1] at q1
              rw [hp2] at q2
              rw [hp3] at q3
              rw [hp4] at q4
              clear hEE hp1 hp2 hp3 hp4
              go_upto_block 7 with fail
              go_cut [] (fun wx => BSt w wx g1 g2 w.heap.size (w.heap.size + 1) N c1 c2 nm A n c x ([s].foldl (stepB (x 5) (x 6)) E))
              case first =>
                as_aux_lemma =>
                  clear HX HV HR HM HMM HSE HSp HNN HE0 HE HE2 tk mm1 mm2 hml HEE HST
                  go_upto_region 18 with fail
                  go_region
                  have hT2 := HT.out.two (k := s) (by omega) (if p1 < wrap64 (p3 - x 6) then wrap64 (p3 - x 6) else p1) (if wrap64 (p4 - x 5) < p2 then wrap64 (p4 - x 5) else p2)
                  generalize ((wr.setCell ⟨g1, s, none⟩ (.int .i64 (if p1 < wrap64 (p3 - x 6) then wrap64 (p3 - x 6) else p1))).setCell ⟨g2, s, none⟩ (.int .i64 (if wrap64 (p4 - x 5) < p2 then wrap64 (p4 - x 5) else p2))).drew = w7 at *
                  rw [max_if, min_if, ← HP1.out, ← HP2.out, ← HP3.out, ← HP4.out, ← stepB_one] at hT2
                  have HT3 := Lib.hid hT2
                  clear hT2 q1 q2 q3 q4 z1 z2 n5 n6 w2 i5 hgne hgne' o1 o2 o1' o2'
                  generalize (if p1 < wrap64 (p3 - x 6) then wrap64 (p3 - x 6) else p1) = Y1
                  generalize (if wrap64 (p4 - x 5) < p2 then wrap64 (p4 - x 5) else p2) = Y2
                  generalize wrap64 (p3 - x 6) = f1
                  generalize wrap64 (p4 - x 5) = f2
                  as_aux_lemma =>
                    go_wp2_with fail
                    go_meet
                    exact HT3.out
              case rest =>
                have HT2 := Lib.hid hcut
                clear hcut hgne hgne' o1 o2 o1' o2' q1 q2 q3 q4 z1 z2 n5 n6 w2 i5
                go_wp2_with fail
                go_roundw
                case rel =>
                  refine ⟨s, (s : Int) - 1, rfl, by omega, rfl, ?_⟩
                  rw [HST.out, List.foldl_append, HEE.out]
                  exact HT2.out
                case measure => simp [intOf]
end Go.Proofs.YtgkmfblmkfclbaaGreatDoor
