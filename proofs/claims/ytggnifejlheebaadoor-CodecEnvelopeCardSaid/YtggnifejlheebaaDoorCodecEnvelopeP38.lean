/- ref11.Some: one of the two kinds of claims. The contract of slices.SortFunc at claims, laid at this program. -/
import Derived.Test.YtggnifejlheebaaDoorCodecEnvelopeP37
import Derived.Shelf.SlSortCmp.WholeK
import Derived.Test.YtggnifejlheebaaDoorProg
namespace Go.Proofs.YtggnifejlheebaaDoor
open Go.RowKit Pl

set_option maxHeartbeats 3200000 in
set_option maxRecDepth 100000 in
theorem some_any (nm : ByteArray) (A : Option Addr) (n c : Nat) (x : Fin 10 → Int) (v u : Value) (l m : List Int) (b : Bool) (w : World) (hx : TinyD x) (hv : Rd w w.heap.size v (l.map vi)) (hi : ∀ y ∈ l, I64 y) (hl : l.length ≤ 1000000000000000) (hu : Rd w w.heap.size u (m.map vi)) (hj : ∀ y ∈ m, I64 y) (hm : m.length ≤ 1000000000000000) :
    Calls Tryd.prog 5 #[vdecl nm (.slice A n c) x, v, u, .bool b] w (SomePost x w) := by
  have HW := Lib.hid (fun w' (g : Grew w w') => rwild_any nm A n c x u m w' hx ((hu.grew (Nat.le_refl _) g).more g.size) hj hm)
  have HI := Lib.hid (fun w' (g : Grew w w') => inside_any nm A n c x v l w' hx ((hv.grew (Nat.le_refl _) g).more g.size) hi hl)
  have HA := Lib.hid (fun w' (g : Grew w w') (U : Value) (xs : List Int) (h1 : Rd w' w'.heap.size U (xs.map vi)) (h2 : xs.length = spanD x) (h3 : Slow xs) => raround_any nm A n c x U u xs m w' hx h1 h2 h3 ((hu.grew (Nat.le_refl _) g).more g.size) hj hm)
  have hbd : Box (w.alloc (.cells (cells12 nm (.slice A n c) x).toArray 27)) w.heap.size 27 (cells12 nm (.slice A n c) x).toArray := Box.new _ _ _
  have hG0 := (Grew.refl w).alloc (.cells (cells12 nm (.slice A n c) x).toArray 27)
  obtain ⟨B, p, q, rfl, -, -⟩ := hv.form
  obtain ⟨B2, p2, q2, rfl, -, -⟩ := hu.form
  clear hv hu hi hj
  rw [vdecl_cells]
  rw [vdecl_cells] at HW HI HA
  cases b
  · go_enter Tryd.func5, Tryd.ntmps5
    go_upto_region 1 with fail
    generalize w.alloc (.cells (cells12 nm (.slice A n c) x).toArray 27) = w1 at *
    have hz : Grew w1 w1.drew := Keeps.drew (Grew.refl w1)
    have HBz := Lib.hid (fun w' (g : Grew w1 w') => hbd.grew g)
    have HG := Lib.hid hG0
    clear hbd hG0
    go_upto_region 3 with fail
    have HS := Lib.hid (show ∀ w', Grew w1 w' → w'.cell? ⟨w.heap.size, 0, none⟩ = some (.string nm) ∧ w'.cell? ⟨w.heap.size, 1, none⟩ = some (.slice A n c) ∧ w'.cell? ⟨w.heap.size, 2, none⟩ = some (.int .i64 (x 0)) ∧ w'.cell? ⟨w.heap.size, 3, none⟩ = some (.int .i64 (x 1)) ∧ w'.cell? ⟨w.heap.size, 4, none⟩ = some (.int .i64 (x 2)) ∧ w'.cell? ⟨w.heap.size, 5, none⟩ = some (.int .i64 (x 3)) ∧ w'.cell? ⟨w.heap.size, 6, none⟩ = some (.int .i64 (x 4)) ∧ w'.cell? ⟨w.heap.size, 7, none⟩ = some (.int .i64 (x 5)) ∧ w'.cell? ⟨w.heap.size, 8, none⟩ = some (.int .i64 (x 6)) ∧ w'.cell? ⟨w.heap.size, 9, none⟩ = some (.int .i64 (x 7)) ∧ w'.cell? ⟨w.heap.size, 10, none⟩ = some (.int .i64 (x 8)) ∧ w'.cell? ⟨w.heap.size, 11, none⟩ = some (.int .i64 (x 9)) from fun w' g => ⟨(HBz.out w' g).cell 0, (HBz.out w' g).cell 1, (HBz.out w' g).cell 2, (HBz.out w' g).cell 3, (HBz.out w' g).cell 4, (HBz.out w' g).cell 5, (HBz.out w' g).cell 6, (HBz.out w' g).cell 7, (HBz.out w' g).cell 8, (HBz.out w' g).cell 9, (HBz.out w' g).cell 10, (HBz.out w' g).cell 11⟩)
    have gz : Grew w1 w1.drew := Keeps.drew (Grew.refl w1)
    have cz := HS.out _ gz
    unfold cells12 at HI HA
    go_region_held3 (fun w' => w'.cell? ⟨w.heap.size, 0, none⟩ = some (.string nm) ∧ w'.cell? ⟨w.heap.size, 1, none⟩ = some (.slice A n c) ∧ w'.cell? ⟨w.heap.size, 2, none⟩ = some (.int .i64 (x 0)) ∧ w'.cell? ⟨w.heap.size, 3, none⟩ = some (.int .i64 (x 1)) ∧ w'.cell? ⟨w.heap.size, 4, none⟩ = some (.int .i64 (x 2)) ∧ w'.cell? ⟨w.heap.size, 5, none⟩ = some (.int .i64 (x 3)) ∧ w'.cell? ⟨w.heap.size, 6, none⟩ = some (.int .i64 (x 4)) ∧ w'.cell? ⟨w.heap.size, 7, none⟩ = some (.int .i64 (x 5)) ∧ w'.cell? ⟨w.heap.size, 8, none⟩ = some (.int .i64 (x 6)) ∧ w'.cell? ⟨w.heap.size, 9, none⟩ = some (.int .i64 (x 7)) ∧ w'.cell? ⟨w.heap.size, 10, none⟩ = some (.int .i64 (x 8)) ∧ w'.cell? ⟨w.heap.size, 11, none⟩ = some (.int .i64 (x 9))) (first | assumption | exact HS.out _ (by assumption) | exact HS.out _ (Keeps.drew (Grew.refl _)))
      (first | (go_at_call 16; (with_reducible refine (HI.out w1.drew (HG.out.trans gz)).mono ?_); rintro e wa ⟨C, q5, ys, rfl, hM5, hl5, hS5, ga⟩; have gA := gz.trans ga; have cA := HS.out wa gA) | (go_at_call 15; (with_reducible refine (HA.out wa (HG.out.trans gA) _ ys hM5.rd hl5 hS5).mono ?_); rintro e wb ⟨v2, cs, rfl, hM, hF, hl6, gb⟩; have gB := gA.trans gb; have cB := HS.out wb gB))
    have HM := Lib.hid (hM.base_le (HG.out.trans gA).size)
    have HF := Lib.hid hF
    have HGr := Lib.hid (HG.out.trans gB)
    clear hM hF HS cz cA cB hM5 hl5 hS5 ga gb gA gB gz
    go_wp2_with fail
    go_ret
    exact ⟨_, cs, rfl, HM.out, HF.out, hl6, HGr.out⟩
  · go_enter Tryd.func5, Tryd.ntmps5
    go_upto_region 1 with fail
    generalize w.alloc (.cells (cells12 nm (.slice A n c) x).toArray 27) = w1 at *
    go_wp2_with (refine ldN 27 Tryd.underlying27 rfl (.tmp 4) w.heap.size (cells12 nm (.slice A n c) x) 27 info12 rfl rfl rfl hbd ?_)
    refine (HW.out w1 hG0).mono ?_
    rintro e w2 ⟨v2, cs, rfl, hM, hF, hl5, k2⟩
    have HM := Lib.hid (hM.base_le hG0.size)
    have HF := Lib.hid hF
    have HG := Lib.hid (hG0.trans k2)
    clear hM hF k2 hG0 hbd
    go_wp2_with fail
    go_ret
    exact ⟨_, cs, rfl, HM.out, HF.out, hl5, HG.out⟩
end Go.Proofs.YtggnifejlheebaaDoor
namespace Go.Proofs.YtggnifejlheebaaDoor
open Go.Shelf
def sortC_ren : Go.Shelf.Ren := ⟨fun | 6 => 21 | 15 => 44 | 14 => 43 | 28 => 71 | 29 => 72 | 20 => 63 | 21 => 64 | 22 => 65 | 23 => 66 | 24 => 67 | 25 => 68 | 26 => 69 | 27 => 70 | 46 => 78 | 47 => 79 | 48 => 80 | 49 => 81 | 50 => 82 | 57 => 86 | n => n, fun | 22 => 29 | 24 => 52 | 25 => 60 | 3 => 3 | 39 => 81 | 0 => 0 | 53 => 119 | 55 => 80 | 4 => 4 | 46 => 113 | 45 => 112 | 50 => 63 | 5 => 5 | 9 => 9 | 66 => 125 | 70 => 129 | 76 => 135 | 77 => 136 | n => n, fun | n => n⟩
theorem sortC : Go.Proofs.SlLaysF0.n6 Tryd.prog sortC_ren := {
  mixed := by kernel_rfl
  f6 := ⟨Tryd.f21.name, by decide, Tryd.func21.trans (congrArg some (by kernel_rfl))⟩
  f14 := ⟨Tryd.f43.name, by decide, Tryd.func43.trans (congrArg some (by kernel_rfl))⟩
  f15 := Tryd.func44.trans (congrArg some (by kernel_rfl))
  f20 := ⟨Tryd.f63.name, by decide, Tryd.func63.trans (congrArg some (by kernel_rfl))⟩
  f21 := ⟨Tryd.f64.name, by decide, Tryd.func64.trans (congrArg some (by kernel_rfl))⟩
  f22 := ⟨Tryd.f65.name, by decide, Tryd.func65.trans (congrArg some (by kernel_rfl))⟩
  f23 := ⟨Tryd.f66.name, by decide, Tryd.func66.trans (congrArg some (by kernel_rfl))⟩
  f24 := ⟨Tryd.f67.name, by decide, Tryd.func67.trans (congrArg some (by kernel_rfl))⟩
  f25 := ⟨Tryd.f68.name, by decide, Tryd.func68.trans (congrArg some (by kernel_rfl))⟩
  f26 := ⟨Tryd.f69.name, by decide, Tryd.func69.trans (congrArg some (by kernel_rfl))⟩
  f27 := ⟨Tryd.f70.name, by decide, Tryd.func70.trans (congrArg some (by kernel_rfl))⟩
  f28 := Tryd.func71.trans (congrArg some (by kernel_rfl))
  f29 := Tryd.func72.trans (congrArg some (by kernel_rfl))
  f46 := ⟨Tryd.f78.name, by decide, Tryd.func78.trans (congrArg some (by kernel_rfl))⟩
  f47 := Tryd.func79.trans (congrArg some (by kernel_rfl))
  f48 := Tryd.func80.trans (congrArg some (by kernel_rfl))
  f49 := ⟨Tryd.f81.name, by decide, Tryd.func81.trans (congrArg some (by kernel_rfl))⟩
  f50 := ⟨Tryd.f82.name, by decide, Tryd.func82.trans (congrArg some (by kernel_rfl))⟩
  f57 := ⟨Tryd.f86.name, by decide, Tryd.func86.trans (congrArg some (by kernel_rfl))⟩
  t0 := Tryd.underlying0
  a0 := Tryd.isAgg0
  z0 := Tryd.sizeOf0
  v0 := Tryd.zeroValue0
  t3 := Tryd.underlying3
  a3 := Tryd.isAgg3
  z3 := Tryd.sizeOf3
  v3 := Tryd.zeroValue3
  t4 := Tryd.underlying4
  a4 := Tryd.isAgg4
  z4 := Tryd.sizeOf4
  v4 := Tryd.zeroValue4
  t5 := Tryd.underlying5
  a5 := Tryd.isAgg5
  z5 := Tryd.sizeOf5
  v5 := Tryd.zeroValue5
  t9 := Tryd.underlying9
  a9 := Tryd.isAgg9
  z9 := Tryd.sizeOf9
  v9 := Tryd.zeroValue9
  t22 := Tryd.underlying29
  a22 := Tryd.isAgg29
  z22 := Tryd.sizeOf29
  v22 := Tryd.zeroValue29
  t25 := Tryd.underlying60
  a25 := Tryd.isAgg60
  z25 := Tryd.sizeOf60
  v25 := Tryd.zeroValue60
  t39 := Tryd.underlying81
  a39 := Tryd.isAgg81
  z39 := Tryd.sizeOf81
  v39 := Tryd.zeroValue81
  t45 := Tryd.underlying112
  a45 := Tryd.isAgg112
  z45 := Tryd.sizeOf112
  v45 := Tryd.zeroValue112
  t46 := Tryd.underlying113
  a46 := Tryd.isAgg113
  z46 := Tryd.sizeOf113
  v46 := Tryd.zeroValue113
  t50 := Tryd.underlying63
  a50 := Tryd.isAgg63
  z50 := Tryd.sizeOf63
  v50 := Tryd.zeroValue63
  t53 := Tryd.underlying119
  a53 := Tryd.isAgg119
  z53 := Tryd.sizeOf119
  v53 := Tryd.zeroValue119
  t55 := Tryd.underlying80
  a55 := Tryd.isAgg80
  z55 := Tryd.sizeOf80
  v55 := Tryd.zeroValue80
  t66 := Tryd.underlying125
  a66 := Tryd.isAgg125
  z66 := Tryd.sizeOf125
  v66 := Tryd.zeroValue125
  t70 := Tryd.underlying129
  a70 := Tryd.isAgg129
  z70 := Tryd.sizeOf129
  v70 := Tryd.zeroValue129
  t76 := Tryd.underlying135
  a76 := Tryd.isAgg135
  z76 := Tryd.sizeOf135
  v76 := Tryd.zeroValue135
  t77 := Tryd.underlying136
  a77 := Tryd.isAgg136
  z77 := Tryd.sizeOf136
  v77 := Tryd.zeroValue136 }
end Go.Proofs.YtggnifejlheebaaDoor
