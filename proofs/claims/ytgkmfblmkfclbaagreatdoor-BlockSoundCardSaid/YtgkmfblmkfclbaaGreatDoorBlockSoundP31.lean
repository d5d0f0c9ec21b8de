/- bands.with: the bands with more claims. -/
import Derived.Test.YtgkmfblmkfclbaaGreatDoorBlockSoundP27
import Derived.Test.YtgkmfblmkfclbaaGreatDoorBlockSoundP12
import Derived.Test.YtgkmfblmkfclbaaGreatDoorBlockSoundP29
import Derived.Deep.RegionWith
import Derived.Test.YtgkmfblmkfclbaaGreatDoorBlockSoundP30
namespace Go.Proofs.YtgkmfblmkfclbaaGreatDoor
open Go.RowKit Pl

/- the two rows, the box of the bands and the result's box -/
structure WSt (w wr : World) (g1 g2 N c1 c2 : Nat) (f : Int) (e : EnvL) : Prop where
  lo : Mine wr w.heap.size 3 (.slice (some ⟨g1, 0, none⟩) N c1) (e.1.map vi)
  hi : Mine wr w.heap.size 3 (.slice (some ⟨g2, 0, none⟩) N c2) (e.2.map vi)
  ne : g1 ≠ g2
  bbox : Box wr w.heap.size 104 (cells3 f (.slice (some ⟨g1, 0, none⟩) N c1) (.slice (some ⟨g2, 0, none⟩) N c2)).toArray
  rbox : Box wr (w.heap.size + 1) 104 (cells3 0 (.slice none 0 0) (.slice none 0 0)).toArray
  grew : Grew w wr
section
variable {w wr w' : World} {g1 g2 N c1 c2 : Nat} {f : Int} {e : EnvL}
theorem WSt.more (h : WSt w wr g1 g2 N c1 c2 f e) (k : Grew wr w') : WSt w w' g1 g2 N c1 c2 f e :=
  ⟨h.lo.grew k, h.hi.grew k, h.ne, h.bbox.grew k, h.rbox.grew k, h.grew.trans k⟩
theorem WSt.len (h : WSt w wr g1 g2 N c1 c2 f e) : e.1.length = N ∧ e.2.length = N := by
  have a := h.lo.len
  have b := h.hi.len
  rw [List.length_map] at a b
  exact ⟨a.symm, b.symm⟩
theorem WSt.cells (h : WSt w wr g1 g2 N c1 c2 f e) {k : Nat} (hk : k < N) : wr.cell? ⟨g1, k, none⟩ = some (.int .i64 (e.1.getD k 0)) ∧ wr.cell? ⟨g2, k, none⟩ = some (.int .i64 (e.2.getD k 0)) := by
  obtain ⟨l1, l2⟩ := h.len
  have a := (h.lo.cell_at (k := k) (by rw [List.length_map, l1]; exact hk)).1
  have b := (h.hi.cell_at (k := k) (by rw [List.length_map, l2]; exact hk)).1
  rw [List.getElem_map] at a b
  rw [List.getD_eq_getElem?_getD, List.getElem?_eq_getElem (by omega), List.getD_eq_getElem?_getD, List.getElem?_eq_getElem (by omega)]
  exact ⟨a, b⟩
theorem WSt.two (h : WSt w wr g1 g2 N c1 c2 f e) {k : Nat} (hk : k < N) (y1 y2 : Int) :
    WSt w (((wr.setCell ⟨g1, k, none⟩ (.int .i64 y1)).setCell ⟨g2, k, none⟩ (.int .i64 y2)).drew) g1 g2 N c1 c2 f (e.1.set k y1, e.2.set k y2) := by
  obtain ⟨l1, l2⟩ := h.len
  have b1 := h.lo.lt g1 rfl
  have b2 := h.hi.lt g2 rfl
  have hk1 : Keeps (fun i => i = g1) wr (wr.setCell ⟨g1, k, none⟩ (.int .i64 y1)) := (Keeps.refl (fun i => i = g1) wr).setCell (p := ⟨g1, k, none⟩) (.inl rfl) _
  have a1 : WSt w (wr.setCell ⟨g1, k, none⟩ (.int .i64 y1)) g1 g2 N c1 c2 f (e.1.set k y1, e.2) := by
    refine ⟨?_, h.hi.keep hk1 (fun i hi e => ?_), h.ne, h.bbox.keep hk1 (fun e => h.lo.ne_box rfl h.bbox (by decide) e.symm), h.rbox.keep hk1 (fun e => h.lo.ne_box rfl h.rbox (by decide) e.symm), Keeps.then_ h.grew hk1 (fun i hi e => by omega)⟩
    · rw [List.map_set]; exact h.lo.store (g := g1) rfl (by rw [List.length_map, l1]; exact hk) _
    · have : g2 = i := by simpa [Value.ownBlock] using hi
      subst this
      exact h.ne e.symm
  have hk2 : Keeps (fun i => i = g2) (wr.setCell ⟨g1, k, none⟩ (.int .i64 y1)) ((wr.setCell ⟨g1, k, none⟩ (.int .i64 y1)).setCell ⟨g2, k, none⟩ (.int .i64 y2)) := (Keeps.refl (fun i => i = g2) _).setCell (p := ⟨g2, k, none⟩) (.inl rfl) _
  have a2 : WSt w ((wr.setCell ⟨g1, k, none⟩ (.int .i64 y1)).setCell ⟨g2, k, none⟩ (.int .i64 y2)) g1 g2 N c1 c2 f (e.1.set k y1, e.2.set k y2) := by
    refine ⟨a1.lo.keep hk2 (fun i hi e => ?_), ?_, h.ne, a1.bbox.keep hk2 (fun e => a1.hi.ne_box rfl a1.bbox (by decide) e.symm), a1.rbox.keep hk2 (fun e => a1.hi.ne_box rfl a1.rbox (by decide) e.symm), Keeps.then_ a1.grew hk2 (fun i hi e => by omega)⟩
    · have : g1 = i := by simpa [Value.ownBlock] using hi
      subst this
      exact h.ne e
    · rw [List.map_set]; exact a1.hi.store (g := g2) rfl (by rw [List.length_map, l2]; exact hk) _
  exact a2.more (Keeps.drew (Grew.refl _))
end
theorem mine_some {w : World} {base n : Nat} {e : TypeId} {v : Value} {xs : List Value} (h : Mine w base e v xs) (hn : xs.length = n) (h0 : 0 < n) : ∃ g q, v = .slice (some ⟨g, 0, none⟩) n q := by
  rcases h.form with ⟨rfl, h'⟩ | ⟨g, cap, cur, rfl, -⟩
  · rw [h'] at hn; simp at hn; omega
  · exact ⟨g, cap, by rw [hn]⟩
theorem WSt.start {w w1 wa wb : World} {A B : Option Addr} {c d B1 B2 g1 g2 N q1 q2 : Nat} {f : Int} {lo hi : List Int} (hG0 : Grew w w1) (hbb : Box w1 w.heap.size 104 (cells3 f (.slice A N c) (.slice B N d)).toArray) (hbr : Box w1 (w.heap.size + 1) 104 (cells3 0 (.slice none 0 0) (.slice none 0 0)).toArray) (ha : Grew w1 wa) (hb : Grew wa wb) (ma : Mine wa B1 3 (.slice (some ⟨g1, 0, none⟩) N q1) (lo.map vi)) (hB1 : w1.heap.size ≤ B1) (mb : Mine wb B2 3 (.slice (some ⟨g2, 0, none⟩) N q2) (hi.map vi)) (hB2 : wa.heap.size ≤ B2) :
    WSt w ((wb.setCell ⟨w.heap.size, 1, none⟩ (.slice (some ⟨g1, 0, none⟩) N q1)).setCell ⟨w.heap.size, 2, none⟩ (.slice (some ⟨g2, 0, none⟩) N q2)) g1 g2 N q1 q2 f (lo, hi) := by
  have h1 := ma.lt g1 rfl
  have h2 := mb.lt g2 rfl
  have s0 := hG0.size
  have hbb' := ((hbb.grew ha).grew hb)
  have hbr' := ((hbr.grew ha).grew hb)
  have hk : Keeps (fun i => i = w.heap.size) wb ((wb.setCell ⟨w.heap.size, 1, none⟩ (.slice (some ⟨g1, 0, none⟩) N q1)).setCell ⟨w.heap.size, 2, none⟩ (.slice (some ⟨g2, 0, none⟩) N q2)) :=
    ((Keeps.refl (fun i => i = w.heap.size) wb).setCell (p := ⟨w.heap.size, 1, none⟩) (.inl rfl) _).setCell (p := ⟨w.heap.size, 2, none⟩) (.inl rfl) _
  have hlt := hbb.lt
  refine ⟨((ma.grew hb).base_le (by omega)).keep hk (fun i hi e => ?_), (mb.base_le (by have := ha.size; omega)).keep hk (fun i hi e => ?_), by omega, ?_, hbr'.keep hk (by omega), Keeps.then_ ((hG0.trans ha).trans hb) hk (fun i hi e => by omega)⟩
  · have : g1 = i := by simpa [Value.ownBlock] using hi
    omega
  · have : g2 = i := by simpa [Value.ownBlock] using hi
    have := ha.size
    omega
  · exact (hbb'.set_ 1 (.slice (some ⟨g1, 0, none⟩) N q1)).set_ 2 (.slice (some ⟨g2, 0, none⟩) N q2)
def WithPost (f : Int) (N : Nat) (e' : EnvL) (w : World) (e : Ending) (w' : World) : Prop :=
  ∃ g1 c1 g2 c2, e = .returned (venv f (.slice (some ⟨g1, 0, none⟩) N c1) (.slice (some ⟨g2, 0, none⟩) N c2)) ∧ Mine w' w.heap.size 3 (.slice (some ⟨g1, 0, none⟩) N c1) (e'.1.map vi) ∧ Mine w' w.heap.size 3 (.slice (some ⟨g2, 0, none⟩) N c2) (e'.2.map vi) ∧ Grew w w'
set_option maxHeartbeats 12800000 in
set_option maxRecDepth 100000 in
theorem with_any (x : Fin 10 → Int) (hx : GoodD x) (lo hi : List Int) (A B : Option Addr) (N c d : Nat) (v : Value) (cs : List Clm) (w : World) (hN : N = spanD x) (hlo : Rd w w.heap.size (.slice A N c) (lo.map vi)) (hhi : Rd w w.heap.size (.slice B N d) (hi.map vi)) (hr : RdC w w.heap.size v cs) (hv : ∀ c ∈ cs, ValidC x c) (hl : cs.length ≤ 4096) :
    Calls Tryz.prog 76 #[venv (x 7) (.slice A N c) (.slice B N d), v] w (WithPost (x 7) N (takeIn (x 7) cs (lo, hi)) w) := by
  obtain ⟨hs1, hs2⟩ := spanD_le hx
  rw [← hN] at hs1 hs2
  have hSE := spanD_eq hx
  rw [← hN] at hSE
  have HSE := Lib.hid hSE
  have hnl : N = lo.length := by obtain ⟨_, _, _, e, h, _⟩ := hlo.form; injection e with _ e; subst e; simpa using h
  have hnh : N = hi.length := by obtain ⟨_, _, _, e, h, _⟩ := hhi.form; injection e with _ e; subst e; simpa using h
  have HNL := Lib.hid hnl
  have HNH := Lib.hid hnh
  have HC1 := Lib.hid (fun w' (g : Grew w w') => iclone_any (.slice A N c) lo w' ((hlo.grew (Nat.le_refl _) g).more g.size) (by omega))
  have HC2 := Lib.hid (fun w' (g : Grew w w') => iclone_any (.slice B N d) hi w' ((hhi.grew (Nat.le_refl _) g).more g.size) (by omega))
  have HX := Lib.hid hx
  have HR := Lib.hid hr
  have HV := Lib.hid hv
  obtain ⟨Av, m, q, rfl, hm, -⟩ := hr.form
  have HM := Lib.hid hm
  have hml : m ≤ 4096 := by omega
  have hbb : Box ((w.alloc (.cells (cells3 (x 7) (.slice A N c) (.slice B N d)).toArray 104)).alloc (.cells #[.int .i64 0, .slice none 0 0, .slice none 0 0] 104)) w.heap.size 104 (cells3 (x 7) (.slice A N c) (.slice B N d)).toArray := (Box.new _ _ _).alloc _
  have hbr : Box ((w.alloc (.cells (cells3 (x 7) (.slice A N c) (.slice B N d)).toArray 104)).alloc (.cells #[.int .i64 0, .slice none 0 0, .slice none 0 0] 104)) (w.alloc (.cells (cells3 (x 7) (.slice A N c) (.slice B N d)).toArray 104)).heap.size 104 (cells3 0 (.slice none 0 0) (.slice none 0 0)).toArray := Box.new _ _ _
  rw [World.size_alloc] at hbr
  have hG0 := ((Grew.refl w).alloc (.cells (cells3 (x 7) (.slice A N c) (.slice B N d)).toArray 104)).alloc (.cells #[.int .i64 0, .slice none 0 0, .slice none 0 0] 104)
  clear hx hr hv hm hN hSE hlo hhi hnl hnh
  unfold venv
  go_enter Tryz.func76, Tryz.ntmps76
  go_upto_region 1 with fail
  generalize (w.alloc (.cells (cells3 (x 7) (.slice A N c) (.slice B N d)).toArray 104)).alloc (.cells #[.int .i64 0, .slice none 0 0, .slice none 0 0] 104) = w1 at *
  have HK := Lib.hid (fun w' (g : Grew w1 w') => show w'.cell? ⟨w.heap.size, 1, none⟩ = some (.slice A N c) ∧ w'.cell? ⟨w.heap.size, 2, none⟩ = some (.slice B N d) from ⟨(hbb.grew g).cell 1, (hbb.grew g).cell 2⟩)
  have HBB := Lib.hid hbb
  have HBR := Lib.hid hbr
  have HG0 := Lib.hid hG0
  clear hbb hbr hG0
  go_cut [] (fun wx => ∃ g1 c1 g2 c2, WSt w wx g1 g2 N c1 c2 (x 7) (lo, hi))
  case first =>
    have hG1 : Grew w1 w1 := Grew.refl w1
    have cc1 := (HK.out w1 hG1).1
    have cc2 := (HK.out w1 hG1).2
    go_region_with (first | (go_at_call 92; (with_reducible refine (HC1.out _ (Grew.trans HG0.out (by repeat (first | assumption | exact Grew.refl _ | with_reducible refine Grew.drew ?_)))).mono ?_); rintro e wa ⟨va, rfl, ma, ka⟩; obtain ⟨g1, q1, rfl⟩ := mine_some (n := N) ma (by rw [List.length_map]; exact HNL.out.symm) (by omega); have hGa : Grew w1 wa := Grew.trans (by repeat (first | assumption | exact Grew.refl _ | with_reducible refine Grew.drew ?_)) ka; have ca2 := (HK.out wa hGa).2) | (go_at_call 92; (with_reducible refine (HC2.out _ (Grew.trans HG0.out (by repeat (first | assumption | exact Grew.refl _ | with_reducible refine Grew.drew ?_)))).mono ?_); rintro e wb ⟨vb, rfl, mb, kb⟩; obtain ⟨g2, q2, rfl⟩ := mine_some (n := N) mb (by rw [List.length_map]; exact HNH.out.symm) (by omega); have hGb : Grew w1 wb := Grew.trans (by repeat (first | assumption | exact Grew.refl _ | with_reducible refine Grew.drew ?_)) kb; have fb1 : wb.frozen? ⟨w.heap.size, 1, none⟩ = false := (HBB.out.grew hGb).frozen 1; have fb2 : wb.frozen? ⟨w.heap.size, 2, none⟩ = false := (HBB.out.grew hGb).frozen 2; have cb1 : wb.cell? ⟨w.heap.size, 1, none⟩ = some (.slice A N c) := (HBB.out.grew hGb).cell 1; have cb2 : wb.cell? ⟨w.heap.size, 2, none⟩ = some (.slice B N d) := (HBB.out.grew hGb).cell 2))
    all_goals (go_wp2_with fail; go_meet)
    all_goals exact ⟨g1, q1, g2, q2, WSt.start HG0.out HBB.out HBR.out hGa (by first | exact kb | exact Grew.trans (Keeps.drew (Grew.refl _)) kb) ma (Nat.le_refl _) mb (Nat.le_refl _)⟩
  case rest =>
    obtain ⟨g1, c1, g2, c2, hS⟩ := hcut
    have HS := Lib.hid hS
    clear HC1 HC2 HK HBB HBR HG0 hS
    go_wp2_with fail
    go_loopw [18] (fun i wr => ∃ k : Nat, k ≤ m ∧ i = .int .i64 k ∧ WSt w wr g1 g2 N c1 c2 (x 7) (takeIn (x 7) (cs.take k) (lo, hi))) (fun i _ => m - (intOf i).toNat)
    case atStart => exact ⟨0, by omega, rfl, HS.out⟩
    case round =>
      clear HS
      obtain ⟨k, hk, rfl, hS⟩ := hrel
      by_cases hlt : k < m
      · have hkl : k < cs.length := by rw [← HM.out]; exact hlt
        have hvk : ValidC x (cs.getD k zc) := HV.out _ (by rw [List.getD_eq_getElem?_getD, List.getElem?_eq_getElem hkl]; exact List.getElem_mem hkl)
        have HTk := Lib.hid (takeIn_snoc (x 7) cs k (lo, hi) hkl)
        obtain ⟨b, o, rfl, hbb, hcell⟩ := (HR.out.grew (Nat.le_refl _) hS.grew).at_ hkl
        obtain ⟨e, he⟩ : ∃ e, takeIn (x 7) (cs.take k) (lo, hi) = e := ⟨_, rfl⟩
        rw [he] at hS HTk
        have HE := Lib.hid he
        generalize cs.getD k zc = dd at *
        obtain ⟨v1, v2, v3, v4, v5, v6⟩ := hvk
        have y7 := HX.out.first
        have y8 := HX.out.last2
        have hNx : dd.2.1 - x 7 < (N : Int) := by have := HSE.out; omega
        have HS := Lib.hid hS
        have HRg := Lib.hid (show wr.rangeAt b (o + k * 4) (cells4 dd) from fun j u hu => by rw [Nat.add_assoc]; exact hcell j u hu)
        clear hS hcell he hkl
        go_upto_region 5 with (first | (refine wpList_load_mid rfl 82 (.tmp 20) rfl b (o + k * 4) rfl (cells4 dd) _ HRg.out Tryz.underlying82 rfl info4 ?_) | (refine stN 82 (.tmp 6) (.tmp 21) wr.heap.size (cells4 dd) (cells4 zc) 82 info4 rfl (by intro v hv; simp [cells4] at hv; rcases hv with rfl | rfl | rfl | rfl <;> rfl) rfl rfl rfl rfl (Box.new wr 82 (cells4 zc).toArray) ?_; intro w6 bx6 k6 d6))
        have k56 : Grew wr w6 := Keeps.then_ ((Grew.refl wr).alloc _) k6 (fun i hi e => by omega)
        have hS6 := HS.out.more k56
        have gcl : w.heap.size < wr.heap.size := HS.out.bbox.lt
        clear k6 d6 k56 HRg HS
        generalize wr.heap.size = gc at *
        obtain ⟨a, ha⟩ : ∃ a : Nat, (a : Int) = dd.1 - x 7 := ⟨(dd.1 - x 7).toNat, by omega⟩
        obtain ⟨L, hL⟩ : ∃ L : Nat, (L : Int) = dd.2.1 - dd.1 + 1 := ⟨(dd.2.1 - dd.1 + 1).toNat, by omega⟩
        have hAp : applyC (x 7) e dd = (List.range' a L).foldl (stepC dd) e := by
          unfold applyC ticks
          rw [show (dd.1 - x 7).toNat = a by omega, show (dd.2.1 - dd.1 + 1).toNat = L by omega]
        have HAp := Lib.hid hAp
        obtain ⟨f0, f1, f2, f3⟩ := bx6.four
        have b0 : w6.cell? ⟨w.heap.size, 0, none⟩ = some (.int .i64 (x 7)) := hS6.bbox.cell 0
        have HS6 := Lib.hid hS6
        have HB6 := Lib.hid bx6
        clear hAp hS6 bx6
        go_wp2_with fail
        go_loopw [7] (fun i w' => ∃ (t : Nat), a ≤ t ∧ t ≤ a + L ∧ i = .int .i64 (t : Nat) ∧ WSt w w' g1 g2 N c1 c2 (x 7) ((List.range' a (t - a)).foldl (stepC dd) e) ∧ Box w' gc 82 (cells4 dd).toArray) (fun i _ => a + L - (intOf i).toNat)
        case atStart => exact ⟨a, by omega, by omega, by rw [ha], by simpa using HS6.out, HB6.out⟩
        case round =>
          clear HS6 HB6 f0 f1 f2 f3 b0
          obtain ⟨t, ht1, ht2, rfl, hT, hB⟩ := hrel
          obtain ⟨f0, f1, f2, f3⟩ := hB.four
          have b0 : wr.cell? ⟨w.heap.size, 0, none⟩ = some (.int .i64 (x 7)) := hT.bbox.cell 0
          have b1 : wr.cell? ⟨w.heap.size, 1, none⟩ = some (.slice (some ⟨g1, 0, none⟩) N c1) := hT.bbox.cell 1
          have b2 : wr.cell? ⟨w.heap.size, 2, none⟩ = some (.slice (some ⟨g2, 0, none⟩) N c2) := hT.bbox.cell 2
          by_cases hlt2 : t < a + L
          · have tt : decide ((t : Int) ≤ dd.2.1 - x 7) = true := by simp; omega
            have htN : t < N := by omega
            obtain ⟨q1, q2⟩ := hT.cells htN
            have z1 := (hT.lo.cell_at (k := t) (by rw [List.length_map, hT.len.1]; exact htN)).2
            have z2 := (hT.hi.cell_at (k := t) (by rw [List.length_map, hT.len.2]; exact htN)).2
            have hgne := hT.ne
            have hgne' : g2 ≠ g1 := Ne.symm hT.ne
            have o1 : g1 ≠ gc := hT.lo.ne_box rfl hB (by decide)
            have o2 : g2 ≠ gc := hT.hi.ne_box rfl hB (by decide)
            have o1' := o1.symm
            have o2' := o2.symm
            have o3 : g1 ≠ w.heap.size := hT.lo.ne_box rfl hT.bbox (by decide)
            have o4 : g2 ≠ w.heap.size := hT.hi.ne_box rfl hT.bbox (by decide)
            have o3' := o3.symm
            have o4' := o4.symm
            have i1 : (0 : Int) ≤ (t : Int) := by omega
            have i2 : (t : Int) < (N : Int) := by omega
            have HT := Lib.hid hT
            have HB := Lib.hid hB
            clear hT hB
            obtain ⟨E, hEE⟩ : ∃ E, (List.range' a (t - a)).foldl (stepC dd) e = E := ⟨_, rfl⟩
            have HEE := Lib.hid hEE
            rw [hEE] at HT q1 q2
            obtain ⟨p1, hp1⟩ : ∃ p1, E.1.getD t 0 = p1 := ⟨_, rfl⟩
            obtain ⟨p2, hp2⟩ : ∃ p2, E.2.getD t 0 = p2 := ⟨_, rfl⟩
            have HP1 := Lib.hid hp1
            have HP2 := Lib.hid hp2
            rw [hp1] at q1
            rw [hp2] at q2
            clear hEE hp1 hp2
            go_upto_region 8 with fail
            clear f0 f1 b0
            refine late_region [(23, fun w' => w'.cell? ⟨w.heap.size, 1, none⟩ = some (.slice (some ⟨g1, 0, none⟩) N c1) ∧ w'.cell? ⟨g1, t, none⟩ = some (.int .i64 p1) ∧ w'.cell? ⟨gc, 2, none⟩ = some (.int .i64 dd.2.2.1)), (25, fun w' => w'.cell? ⟨w.heap.size, 2, none⟩ = some (.slice (some ⟨g2, 0, none⟩) N c2) ∧ w'.cell? ⟨g2, t, none⟩ = some (.int .i64 p2) ∧ w'.cell? ⟨gc, 3, none⟩ = some (.int .i64 dd.2.2.2))] (by kernel_rfl) (by intro p hp; simp at hp; rcases hp with rfl | rfl; (exact ⟨b1, q1, f2⟩); exact ⟨b2, q2, f3⟩) ?_
            intro hcl hkn
            refine' take_pure (i := 0) (v := _) rfl (by kernel_rfl) (by kernel_rfl) (by kernel_rfl) hcl hkn (by rfl) (fun _ _ _ h => h) rfl ?_ ?_
            rotate_left
            · intro w'; go_simp; try with_reducible rfl
            clear hcl hkn
            intro hcl hkn
            simp only [List.getElem_toArray, List.getElem_cons_zero, Act.put, List.setIfInBounds_toArray, List.set_cons_zero, List.set_cons_succ]
            refine' take_load 23 _ (i := 1) (v := _) rfl (by kernel_rfl) (by kernel_rfl) (by kernel_rfl) hcl hkn (by rfl) 0 rfl (by kernel_rfl) (fun _ _ _ h => h) rfl ?_ ?_
            rotate_left
            · rintro w' ⟨x1, x2, x3⟩; go_simp; try with_reducible rfl
            clear hcl hkn
            intro hcl hkn
            simp only [List.getElem_toArray, List.getElem_cons_zero, List.getElem_cons_succ, Act.put, List.setIfInBounds_toArray, List.set_cons_zero, List.set_cons_succ]
            refine' take_pure (i := 2) (v := _) rfl (by kernel_rfl) (by kernel_rfl) (by kernel_rfl) hcl hkn (by rfl) (fun _ _ _ h => h) rfl ?_ ?_
            rotate_left
            · intro w'; go_simp; try with_reducible rfl
            clear hcl hkn
            intro hcl hkn
            simp only [List.getElem_toArray, List.getElem_cons_zero, List.getElem_cons_succ, Act.put, List.setIfInBounds_toArray, List.set_cons_zero, List.set_cons_succ]
            refine' take_pure (i := 3) (v := _) rfl (by kernel_rfl) (by kernel_rfl) (by kernel_rfl) hcl hkn (by rfl) (fun _ _ _ h => h) rfl ?_ ?_
            rotate_left
            · intro w'; go_simp; try with_reducible rfl
            clear hcl hkn
            intro hcl hkn
            simp only [List.getElem_toArray, List.getElem_cons_zero, List.getElem_cons_succ, Act.put, List.setIfInBounds_toArray, List.set_cons_zero, List.set_cons_succ]
            refine' take_load 25 _ (i := 4) (v := _) rfl (by kernel_rfl) (by kernel_rfl) (by kernel_rfl) hcl hkn (by rfl) 1 rfl (by kernel_rfl) (fun _ _ _ h => h) rfl ?_ ?_
            rotate_left
            · rintro w' ⟨x1, x2, x3⟩; go_simp; try with_reducible rfl
            clear hcl hkn
            intro hcl hkn
            simp only [List.getElem_toArray, List.getElem_cons_zero, List.getElem_cons_succ, Act.put, List.setIfInBounds_toArray, List.set_cons_zero, List.set_cons_succ]
            refine' take_pure (i := 5) (v := _) rfl (by kernel_rfl) (by kernel_rfl) (by kernel_rfl) hcl hkn (by rfl) (fun _ _ _ h => h) rfl ?_ ?_
            rotate_left
            · intro w'; go_simp; try with_reducible rfl
            clear hcl hkn
            intro hcl hkn
            simp only [List.getElem_toArray, List.getElem_cons_zero, List.getElem_cons_succ, Act.put, List.setIfInBounds_toArray, List.set_cons_zero, List.set_cons_succ]
            refine' take_pure (i := 6) (v := _) rfl (by kernel_rfl) (by kernel_rfl) (by kernel_rfl) hcl hkn (by rfl) (fun _ _ _ h => h) rfl ?_ ?_
            rotate_left
            · intro w'; go_simp; try with_reducible rfl
            clear hcl hkn
            intro hcl hkn
            simp only [List.getElem_toArray, List.getElem_cons_zero, List.getElem_cons_succ, Act.put, List.setIfInBounds_toArray, List.set_cons_zero, List.set_cons_succ]
            refine' take_load 23 _ (i := 7) (v := _) rfl (by kernel_rfl) (by kernel_rfl) (by kernel_rfl) hcl hkn (by rfl) 0 rfl (by kernel_rfl) (fun _ _ _ h => h) rfl ?_ ?_
            rotate_left
            · rintro w' ⟨x1, x2, x3⟩; go_simp; try with_reducible rfl
            clear hcl hkn
            intro hcl hkn
            simp only [List.getElem_toArray, List.getElem_cons_zero, List.getElem_cons_succ, Act.put, List.setIfInBounds_toArray, List.set_cons_zero, List.set_cons_succ]
            refine' take_pure (i := 8) (v := _) rfl (by kernel_rfl) (by kernel_rfl) (by kernel_rfl) hcl hkn (by rfl) (fun _ _ _ h => h) rfl ?_ ?_
            rotate_left
            · intro w'; go_simp; try with_reducible rfl
            clear hcl hkn
            intro hcl hkn
            simp only [List.getElem_toArray, List.getElem_cons_zero, List.getElem_cons_succ, Act.put, List.setIfInBounds_toArray, List.set_cons_zero, List.set_cons_succ]
            refine' take_pure (i := 9) (v := _) rfl (by kernel_rfl) (by kernel_rfl) (by kernel_rfl) hcl hkn (by rfl) (fun _ _ _ h => h) rfl ?_ ?_
            rotate_left
            · intro w'; go_simp; try with_reducible rfl
            clear hcl hkn
            intro hcl hkn
            simp only [List.getElem_toArray, List.getElem_cons_zero, List.getElem_cons_succ, Act.put, List.setIfInBounds_toArray, List.set_cons_zero, List.set_cons_succ]
            refine' take_load 23 _ (i := 10) (v := _) rfl (by kernel_rfl) (by kernel_rfl) (by kernel_rfl) hcl hkn (by rfl) 0 rfl (by kernel_rfl) (fun _ _ _ h => h) rfl ?_ ?_
            rotate_left
            · rintro w' ⟨x1, x2, x3⟩; go_simp; try with_reducible rfl
            clear hcl hkn
            intro hcl hkn
            simp only [List.getElem_toArray, List.getElem_cons_zero, List.getElem_cons_succ, Act.put, List.setIfInBounds_toArray, List.set_cons_zero, List.set_cons_succ]
            refine' take_pure (i := 11) (v := _) rfl (by kernel_rfl) (by kernel_rfl) (by kernel_rfl) hcl hkn (by rfl) (fun _ _ _ h => h) rfl ?_ ?_
            rotate_left
            · intro w'; go_simp; try with_reducible rfl
            clear hcl hkn
            intro hcl hkn
            simp only [List.getElem_toArray, List.getElem_cons_zero, List.getElem_cons_succ, Act.put, List.setIfInBounds_toArray, List.set_cons_zero, List.set_cons_succ]
            refine' take_load 23 _ (i := 12) (v := _) rfl (by kernel_rfl) (by kernel_rfl) (by kernel_rfl) hcl hkn (by rfl) 0 rfl (by kernel_rfl) (fun _ _ _ h => h) rfl ?_ ?_
            rotate_left
            · rintro w' ⟨x1, x2, x3⟩; go_simp; try with_reducible rfl
            clear hcl hkn
            intro hcl hkn
            simp only [List.getElem_toArray, List.getElem_cons_zero, List.getElem_cons_succ, Act.put, List.setIfInBounds_toArray, List.set_cons_zero, List.set_cons_succ]
            refine' take_pure (i := 13) (v := _) rfl (by kernel_rfl) (by kernel_rfl) (by kernel_rfl) hcl hkn (by rfl) (fun _ _ _ h => h) rfl ?_ ?_
            rotate_left
            · intro w'; go_simp; try with_reducible rfl
            clear hcl hkn
            intro hcl hkn
            simp only [List.getElem_toArray, List.getElem_cons_zero, List.getElem_cons_succ, Act.put, List.setIfInBounds_toArray, List.set_cons_zero, List.set_cons_succ]
            refine' take_pure (i := 14) (v := _) rfl (by kernel_rfl) (by kernel_rfl) (by kernel_rfl) hcl hkn (by rfl) (fun _ _ _ h => h) rfl ?_ ?_
            rotate_left
            · intro w'; go_simp; try with_reducible rfl
            clear hcl hkn
            intro hcl hkn
            simp only [List.getElem_toArray, List.getElem_cons_zero, List.getElem_cons_succ, Act.put, List.setIfInBounds_toArray, List.set_cons_zero, List.set_cons_succ]
            refine' take_load 25 _ (i := 15) (v := _) rfl (by kernel_rfl) (by kernel_rfl) (by kernel_rfl) hcl hkn (by rfl) 1 rfl (by kernel_rfl) (fun _ _ _ h => h) rfl ?_ ?_
            rotate_left
            · rintro w' ⟨x1, x2, x3⟩; go_simp; try with_reducible rfl
            clear hcl hkn
            intro hcl hkn
            simp only [List.getElem_toArray, List.getElem_cons_zero, List.getElem_cons_succ, Act.put, List.setIfInBounds_toArray, List.set_cons_zero, List.set_cons_succ]
            refine' take_pure (i := 16) (v := _) rfl (by kernel_rfl) (by kernel_rfl) (by kernel_rfl) hcl hkn (by rfl) (fun _ _ _ h => h) rfl ?_ ?_
            rotate_left
            · intro w'; go_simp; try with_reducible rfl
            clear hcl hkn
            intro hcl hkn
            simp only [List.getElem_toArray, List.getElem_cons_zero, List.getElem_cons_succ, Act.put, List.setIfInBounds_toArray, List.set_cons_zero, List.set_cons_succ]
            refine' take_pure (i := 17) (v := _) rfl (by kernel_rfl) (by kernel_rfl) (by kernel_rfl) hcl hkn (by rfl) (fun _ _ _ h => h) rfl ?_ ?_
            rotate_left
            · intro w'; go_simp; try with_reducible rfl
            clear hcl hkn
            intro hcl hkn
            simp only [List.getElem_toArray, List.getElem_cons_zero, List.getElem_cons_succ, Act.put, List.setIfInBounds_toArray, List.set_cons_zero, List.set_cons_succ]
            refine' take_load 25 _ (i := 18) (v := _) rfl (by kernel_rfl) (by kernel_rfl) (by kernel_rfl) hcl hkn (by rfl) 1 rfl (by kernel_rfl) (fun _ _ _ h => h) rfl ?_ ?_
            rotate_left
            · rintro w' ⟨x1, x2, x3⟩; go_simp; try with_reducible rfl
            clear hcl hkn
            intro hcl hkn
            simp only [List.getElem_toArray, List.getElem_cons_zero, List.getElem_cons_succ, Act.put, List.setIfInBounds_toArray, List.set_cons_zero, List.set_cons_succ]
            refine' take_pure (i := 19) (v := _) rfl (by kernel_rfl) (by kernel_rfl) (by kernel_rfl) hcl hkn (by rfl) (fun _ _ _ h => h) rfl ?_ ?_
            rotate_left
            · intro w'; go_simp; try with_reducible rfl
            clear hcl hkn
            intro hcl hkn
            simp only [List.getElem_toArray, List.getElem_cons_zero, List.getElem_cons_succ, Act.put, List.setIfInBounds_toArray, List.set_cons_zero, List.set_cons_succ]
            refine' take_load 25 _ (i := 20) (v := _) rfl (by kernel_rfl) (by kernel_rfl) (by kernel_rfl) hcl hkn (by rfl) 1 rfl (by kernel_rfl) (fun _ _ _ h => h) rfl ?_ ?_
            rotate_left
            · rintro w' ⟨x1, x2, x3⟩; go_simp; try with_reducible rfl
            clear hcl hkn
            intro hcl hkn
            simp only [List.getElem_toArray, List.getElem_cons_zero, List.getElem_cons_succ, Act.put, List.setIfInBounds_toArray, List.set_cons_zero, List.set_cons_succ]
            refine' take_pure (i := 21) (v := _) rfl (by kernel_rfl) (by kernel_rfl) (by kernel_rfl) hcl hkn (by rfl) (fun _ _ _ h => h) rfl ?_ ?_
            rotate_left
            · intro w'; go_simp; try with_reducible rfl
            clear hcl hkn
            intro hcl hkn
            simp only [List.getElem_toArray, List.getElem_cons_zero, List.getElem_cons_succ, Act.put, List.setIfInBounds_toArray, List.set_cons_zero, List.set_cons_succ]
            refine' take_pure (i := 22) (v := _) rfl (by kernel_rfl) (by kernel_rfl) (by kernel_rfl) hcl hkn (by rfl) (fun _ _ _ h => h) rfl ?_ ?_
            rotate_left
            · intro w'; go_simp; try with_reducible rfl
            clear hcl hkn
            intro hcl hkn
            simp only [List.getElem_toArray, List.getElem_cons_zero, List.getElem_cons_succ, Act.put, List.setIfInBounds_toArray, List.set_cons_zero, List.set_cons_succ]
            refine one_next hcl (i := 23) (by kernel_rfl) rfl rfl (fun K hK => ?_)
            go_simp
            refine hK _ _ (known_two (.inl (by kernel_rfl)) (.inr ⟨by go_simp, by go_simp, by go_simp⟩)) ?_
            clear hK K hcl hkn
            intro hcl hkn
            try simp only [List.getElem_toArray, List.getElem_cons_zero, List.getElem_cons_succ, Act.put, List.setIfInBounds_toArray, List.set_cons_zero, List.set_cons_succ]
            refine one_next hcl (i := 24) (by kernel_rfl) rfl rfl (fun K hK => ?_)
            go_simp
            refine hK _ _ (known_two (.inl (by kernel_rfl)) (.inr ⟨by go_simp, by go_simp, by go_simp⟩)) ?_
            clear hK K hcl hkn
            intro hcl hkn
            try simp only [List.getElem_toArray, List.getElem_cons_zero, List.getElem_cons_succ, Act.put, List.setIfInBounds_toArray, List.set_cons_zero, List.set_cons_succ]
            refine one_next hcl (i := 25) (by kernel_rfl) rfl rfl (fun K hK => ?_)
            go_simp
            refine hK _ _ (known_two (.inl (by kernel_rfl)) (.inl (by kernel_rfl))) ?_
            clear hK K hcl hkn
            intro _ _
            refine all_done (by kernel_rfl) ?_ _
            try rw [max_if]
            try rw [min_if]
            have hT2 := HT.out.two htN (max p1 dd.2.2.1) (min p2 dd.2.2.2)
            have hB2 : Box ((wr.setCell ⟨g1, t, none⟩ (.int .i64 (max p1 dd.2.2.1))).setCell ⟨g2, t, none⟩ (.int .i64 (min p2 dd.2.2.2))).drew gc 82 (cells4 dd).toArray := (HB.out.far (p := ⟨g1, t, none⟩) o1' _).far (p := ⟨g2, t, none⟩) o2' _
            generalize ((wr.setCell ⟨g1, t, none⟩ (.int .i64 (max p1 dd.2.2.1))).setCell ⟨g2, t, none⟩ (.int .i64 (min p2 dd.2.2.2))).drew = w7 at *
            rw [← HP1.out, ← HP2.out] at hT2
            have HT2 := Lib.hid hT2
            have HB2 := Lib.hid hB2
            clear hT2 hB2 b1 b2 q1 q2 z1 z2 f2 f3
            go_wp2_with fail
            go_roundw
            case rel =>
              refine ⟨t + 1, by omega, by omega, by go_num, ?_, HB2.out⟩
              rw [range'_snoc a t ht1, List.foldl_append, HEE.out]
              exact HT2.out
            case measure => simp [intOf]; omega
          · have tt : decide ((t : Int) ≤ dd.2.1 - x 7) = false := by simp; omega
            obtain rfl : t = a + L := by omega
            have hT' := hT
            rw [show a + L - a = L by omega, ← HAp.out, ← HTk.out] at hT'
            have HT := Lib.hid hT'
            clear hT hT'
            go_wp2_with fail
            go_roundw
            case rel => exact ⟨k + 1, by omega, by go_num, HT.out⟩
            case measure => simp [intOf]; omega
      · obtain rfl : k = m := by omega
        have hS' := hS
        rw [List.take_of_length_le (by rw [← HM.out]; omega)] at hS'
        have HS := Lib.hid hS'
        clear hS hS'
        go_wp2_with (first | (refine ldN 104 Tryz.underlying104 rfl (.tmp 2) w.heap.size (cells3 (x 7) (.slice (some ⟨g1, 0, none⟩) N c1) (.slice (some ⟨g2, 0, none⟩) N c2)) 104 (by kernel_rfl) rfl rfl rfl HS.out.bbox ?_) | (refine stN 104 (.tmp 4) (.tmp 61) (w.heap.size + 1) (cells3 (x 7) (.slice (some ⟨g1, 0, none⟩) N c1) (.slice (some ⟨g2, 0, none⟩) N c2)) (cells3 0 (.slice none 0 0) (.slice none 0 0)) 104 (by kernel_rfl) rfl (by intro v hv; simp [cells3] at hv; rcases hv with rfl | rfl | rfl <;> rfl) rfl rfl rfl rfl HS.out.rbox ?_; intro w8 bx8 k8 d8))
        have HM8 := Lib.hid (HS.out.lo.keep k8 (fun i hi e => HS.out.lo.ne_box hi HS.out.rbox (by decide) e))
        have HM9 := Lib.hid (HS.out.hi.keep k8 (fun i hi e => HS.out.hi.ne_box hi HS.out.rbox (by decide) e))
        have HG8 := Lib.hid (show Grew w w8 from Keeps.then_ HS.out.grew k8 (fun i hi e => by omega))
        have r0 : w8.cell? ⟨w.heap.size + 1, 0, none⟩ = some (.int .i64 (x 7)) := bx8.cell 0
        have r1 : w8.cell? ⟨w.heap.size + 1, 1, none⟩ = some (.slice (some ⟨g1, 0, none⟩) N c1) := bx8.cell 1
        have r2 : w8.cell? ⟨w.heap.size + 1, 2, none⟩ = some (.slice (some ⟨g2, 0, none⟩) N c2) := bx8.cell 2
        exact bodyPost_ret (v := venv (x 7) (.slice (some ⟨g1, 0, none⟩) N c1) (.slice (some ⟨g2, 0, none⟩) N c2)) (by simp [results, Tryz.results76, go_sem, r0, r1, r2, venv, cells3]) rfl ⟨g1, c1, g2, c2, rfl, HM8.out, HM9.out, HG8.out⟩
end Go.Proofs.YtgkmfblmkfclbaaGreatDoor
