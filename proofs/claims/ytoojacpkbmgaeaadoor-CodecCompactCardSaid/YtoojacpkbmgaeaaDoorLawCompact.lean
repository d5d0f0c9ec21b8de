/- The law CodecCompact, walked: it returns true and leaves what was there. -/
import Derived.Test.YtoojacpkbmgaeaaDoorRDecode
import Derived.Test.YtoojacpkbmgaeaaDoorCPl3
import Derived.Test.YtoojacpkbmgaeaaDoorClaims
import Derived.Deep.RegionHeld3
import Derived.Deep.DeepCutAuto
import Derived.Deep.DrawnRows
namespace Go.Proofs.YtoojacpkbmgaeaaDoor
open Go.RowKit Pl

theorem ar_bound {s : Int} {j : Nat} (h1 : -4096 ≤ s) (h2 : s ≤ 4096) (hj : j ≤ 200) : -819200 ≤ (j : Int) * s ∧ (j : Int) * s ≤ 819200 := by
  have a1 := Int.mul_le_mul_of_nonneg_left h2 (show (0 : Int) ≤ j by omega)
  have a2 := Int.mul_le_mul_of_nonneg_left h1 (show (0 : Int) ≤ j by omega)
  omega
theorem ar_succ (j : Nat) (s : Int) : ((j + 1 : Nat) : Int) * s = (j : Int) * s + s := by rw [Int.natCast_add, Int.add_mul]; simp
def smallC (x : Clm) : Prop := -1048576 ≤ x.1 ∧ x.1 ≤ 1048576 ∧ -1048576 ≤ x.2.1 ∧ x.2.1 ≤ 2000000 ∧ -1073741824 ≤ x.2.2.1 ∧ x.2.2.1 ≤ 1073741824 ∧ -1073741824 ≤ x.2.2.2 ∧ x.2.2.2 ≤ 1073741824
theorem arC_ok {x : Clm} {s : Int} (hx : smallC x) (h1 : -4096 ≤ s) (h2 : s ≤ 4096) {m : Nat} (hm : m ≤ 200) : ∀ c ∈ arCs x s m, okC c := by
  intro c hc
  unfold arCs at hc
  obtain ⟨j, hj, rfl⟩ := List.mem_map.1 hc
  rw [List.mem_range] at hj
  have := ar_bound h1 h2 (show j ≤ 200 by omega)
  unfold smallC at hx
  unfold arC okC R40
  simp only
  omega
theorem arI_ok {f s : Int} (h0 : -1048576 ≤ f) (h3 : f ≤ 1048576) (h1 : -4096 ≤ s) (h2 : s ≤ 4096) {m : Nat} (hm : m ≤ 200) : ∀ x ∈ arIs f s m, I64 x := by
  intro c hc
  unfold arIs at hc
  obtain ⟨j, hj, rfl⟩ := List.mem_map.1 hc
  rw [List.mem_range] at hj
  have := ar_bound h1 h2 (show j ≤ 200 by omega)
  unfold arI I64
  omega
theorem ar_nx {f s : Int} {j : Nat} (h0 : -1048576 ≤ f) (h3 : f ≤ 2000000) (h1 : -4096 ≤ s) (h2 : s ≤ 4096) (hj : j ≤ 190) : wrap64 (f + j * s + s) = f + ((j + 1 : Nat) : Int) * s := by
  have := ar_bound h1 h2 (show j ≤ 200 by omega)
  rw [ar_succ]
  generalize (j : Int) * s = t at *
  unfold wrap64; omega
theorem arC_set {x : Clm} {s : Int} {j : Nat} : setC (setC (arC x s j) 0 (arC x s (j + 1)).1) 1 (arC x s (j + 1)).2.1 = arC x s (j + 1) := rfl
theorem arC_zero (x : Clm) (s : Int) : arC x s 0 = x := by unfold arC; simp

theorem RdC.take {w : World} {B : Nat} {cs : List Clm} {A : Option Addr} {n c : Nat} (h : RdC w B (.slice A n c) cs) {m : Nat} (hm : m ≤ cs.length) : RdC w B (.slice A m c) (cs.take m) := by
  obtain ⟨A', c', hv, hc, hx⟩ := h
  injection hv with hA _ hcc
  subst hA hcc
  have hl : (cs.take m).length = m := by rw [List.length_take]; omega
  refine ⟨A, c, by rw [hl], by omega, fun h0 => ?_⟩
  obtain ⟨b, o, rfl, hb, hcell⟩ := hx (by omega)
  exact ⟨b, o, rfl, hb, fun j u hu => hcell j u (flat_take cs m j u hu)⟩
theorem MineC.some_ {w : World} {base : Nat} {cs : List Clm} {A : Option Addr} {n c : Nat} (h : MineC w base (.slice A n c) cs) (hn : 0 < cs.length) : ∃ g, A = some ⟨g, 0, none⟩ := by
  rcases h.form with ⟨_, rfl⟩ | ⟨g, cap, cur, hv, _⟩
  · simp at hn
  · injection hv with hv
    exact ⟨g, hv⟩
theorem Mine.len_form {w : World} {base : Nat} {e : TypeId} {v : Value} {bs : List Nat} (h : Mine w base e v (bs.map vb)) : ∃ A c, v = .slice A bs.length c := by
  obtain ⟨A, n, c, rfl, hn⟩ := h.slice
  rw [List.length_map] at hn
  exact ⟨A, c, by rw [hn]⟩
theorem flat_zeros (n j : Nat) (u : Value) (h : (flat (List.replicate n zc))[j]? = some u) : u = .int .i64 0 ∧ j < n * 4 := by
  have hj : j < n * 4 := by
    have := (List.getElem?_eq_some_iff.1 h).1
    rwa [flat_length, List.length_replicate] at this
  refine ⟨?_, hj⟩
  have hm := List.mem_of_getElem? h
  unfold flat at hm
  obtain ⟨c, hc, hu⟩ := List.mem_flatMap.1 hm
  rw [List.eq_of_mem_replicate hc] at hu
  simp only [cells4, zc, List.mem_cons, List.not_mem_nil, or_false] at hu
  rcases hu with rfl | rfl | rfl | rfl <;> rfl
theorem zrow_rd (w : World) (Z : Array Value) (hZ : ∀ j, j < 16388 → Z[j]? = some (.int .i64 0)) (o n c : Nat) (hn : o + n * 4 ≤ 16388) (hc : n ≤ c) :
    RdC (w.alloc (.cells Z 24)) (w.heap.size + 1) (.slice (some ⟨w.heap.size, o, none⟩) n c) (List.replicate n zc) := by
  have hl : (List.replicate n zc).length = n := List.length_replicate
  refine ⟨_, c, by rw [hl], by rw [hl]; exact hc, fun _ => ⟨_, _, rfl, by omega, fun j u hu => ?_⟩⟩
  obtain ⟨rfl, hj⟩ := flat_zeros n j u hu
  rw [(Box.new w 24 Z).cell, hZ _ (by omega)]
theorem make_over : ∃ Z : Array Value, (∀ w : World, (Instr.makeSlice 25 (.int .i64 4097) (.int .i64 4097)).run Tryd.prog w = .ok (.slice (some ⟨w.heap.size, 0, none⟩) 4097 4097) (w.alloc (.cells Z 24))) ∧ ∀ j, j < 16388 → Z[j]? = some (.int .i64 0) := by
  obtain ⟨i, hi, hz, hs, hby⟩ := info_parts infoC
  refine ⟨madeCells #[.int .i64 0, .int .i64 0, .int .i64 0, .int .i64 0] 16388, fun w => ?_, fun j hj => ?_⟩
  · have := run_make (P := Tryd.prog) w 25 24 i _ Tryd.underlying25 hi hz .i64 .i64 4097 4097 (by omega) (by omega) (by rw [hby]; omega) (by omega)
    rw [hs] at this
    exact this
  · unfold madeCells
    rw [Array.getElem?_map, Array.getElem?_range, if_pos hj]
    have : j % 4 = 0 ∨ j % 4 = 1 ∨ j % 4 = 2 ∨ j % 4 = 3 := by omega
    simp only [Option.map_some, List.size_toArray, List.length_cons, List.length_nil, Nat.reduceAdd]
    rcases this with h | h | h | h <;> rw [h] <;> rfl
theorem MineC.ne_mine {w : World} {base base' : Nat} {v u : Value} {cs : List Clm} {e : TypeId} {xs : List Value} (h : MineC w base v cs) (hu : Mine w base' e u xs) (hne : e ≠ 24) {k : Nat} (hk : v.ownBlock = some k) : u.ownBlock ≠ some k := fun hk2 => by
  rcases h.form with ⟨rfl, _⟩ | ⟨g', cap, cur, rfl, _, hbox, _⟩
  · cases hk
  · have : g' = k := by simpa [Value.ownBlock] using hk
    subst this
    exact hu.ne_box hk2 hbox hne rfl
set_option maxHeartbeats 12800000 in
set_option maxRecDepth 100000 in
theorem codecCompact_walk (c : Clm) (st many : Int) (w : World) (hc : I64 c.1 ∧ I64 c.2.1 ∧ I64 c.2.2.1 ∧ I64 c.2.2.2) (hs : I64 st) (hm : I64 many) (ht : Tab w w.heap.size) :
    Calls Tryd.prog 8 #[.agg #[.int .i64 c.1, .int .i64 c.2.1, .int .i64 c.2.2.1, .int .i64 c.2.2.2], .int .i64 st, .int .i64 many] w fun e w' => e = .returned (.bool true) ∧ Grew w w' := by
  obtain ⟨i0, i1, i2, i3⟩ := hc
  have HT := Lib.hid ht
  have hb3 : Box (w.alloc (.cells #[.int .i64 c.1, .int .i64 c.2.1, .int .i64 c.2.2.1, .int .i64 c.2.2.2] 24)) w.heap.size 24 (cells4 c).toArray := Box.new w _ _
  have hG1 : Grew w (w.alloc (.cells #[.int .i64 c.1, .int .i64 c.2.1, .int .i64 c.2.2.1, .int .i64 c.2.2.2] 24)) := (Grew.refl w).alloc _
  have hs1 : (w.alloc (.cells #[.int .i64 c.1, .int .i64 c.2.1, .int .i64 c.2.2.1, .int .i64 c.2.2.2] 24)).heap.size = w.heap.size + 1 := World.size_alloc _ _
  clear ht
  go_enter Tryd.func8, Tryd.ntmps8
  go_upto_region 1 with fail
  generalize w.alloc (.cells #[.int .i64 c.1, .int .i64 c.2.1, .int .i64 c.2.2.1, .int .i64 c.2.2.2] 24) = w1 at *
  have H3 := Lib.hid hb3
  have HG1 := Lib.hid hG1
  have HS1 := Lib.hid hs1
  obtain ⟨c0, c1, c2, c3⟩ := hb3.four
  have hlt1 := hb3.lt
  clear hb3 hG1 hs1
  go_cut [7] (fun s7 wx => s7 = .pointer (some ⟨w1.heap.size, 0, none⟩) ∧ Box wx w1.heap.size 24 (cells4 (bnd c.1 1048576, 0, bnd c.2.2.1 1073741824, bnd c.2.2.2 1073741824)).toArray ∧ Grew w1 wx)
  case first =>
    go_region_held3 (fun w' => w'.cell? ⟨w.heap.size, 0, none⟩ = some (.int .i64 c.1) ∧ w'.cell? ⟨w.heap.size, 2, none⟩ = some (.int .i64 c.2.2.1) ∧ w'.cell? ⟨w.heap.size, 3, none⟩ = some (.int .i64 c.2.2.2)) (first | assumption | go_keep)
      (first
        | (go_at_call_of 42 (Value.int .i64 c.1); refine (bnd' c.1 1048576 _ i0 (by omega) (by omega)).mono ?_; rintro e w' ⟨rfl, rfl⟩)
        | (go_at_call_of 42 (Value.int .i64 c.2.2.1); refine (bnd' c.2.2.1 1073741824 _ i2 (by omega) (by omega)).mono ?_; rintro e w' ⟨rfl, rfl⟩)
        | (go_at_call_of 42 (Value.int .i64 c.2.2.2); refine (bnd' c.2.2.2 1073741824 _ i3 (by omega) (by omega)).mono ?_; rintro e w' ⟨rfl, rfl⟩))
    all_goals (go_wp2_with fail; go_meet)
    all_goals exact ⟨rfl, Box.drew (Box.new w1 24 (cells4 (bnd c.1 1048576, 0, bnd c.2.2.1 1073741824, bnd c.2.2.2 1073741824)).toArray), Keeps.drew ((Grew.refl w1).alloc _)⟩
  case rest =>
    obtain ⟨rfl, hb7, hGx⟩ := hcut
    clear c0 c1 c2 c3
    have e0 := bnd_range c.1 1048576
    have e2 := bnd_range c.2.2.1 1073741824
    have e3 := bnd_range c.2.2.2 1073741824
    have ha := arnd_lt c.2.1 4096 (by decide)
    have hb3 := H3.out.grew hGx
    obtain ⟨c0, c1, c2, c3⟩ := hb3.four
    obtain ⟨d0, d1, d2, d3⟩ := hb7.four
    generalize bnd c.1 1048576 = f at *
    generalize bnd c.2.2.1 1073741824 = lo at *
    generalize bnd c.2.2.2 1073741824 = hi at *
    go_wp2_with fail
    refine wp_region_still_tail 7 (by kernel_rfl) (by kernel_rfl) ?_
    simp only [List.take_succ_cons, List.take_zero, List.drop_succ_cons, List.drop_zero]
    repeat still_step
    still_call (arnd' c.2.1 4096 _ i1 (by omega) (by omega))
    repeat still_step
    refine wpStill_nil ?_
    change wpList _ _ _ _ _ wc.drew
    generalize arnd c.2.1 4096 = ar at *
    have hw : IntKind.i64.wrap (f + (ar : Int)) = f + (ar : Int) := IntWalk.i64_in _ (by simp at ha e0; omega)
    rw [hw]
    refine st1c (.tmp 32) (.tmp 31) w1.heap.size 1 (by decide) (f + (ar : Int)) (f, 0, lo, hi) 24 rfl rfl rfl rfl hb7.drew ?_
    intro wA hA kA
    have hGA : Grew w wA := Keeps.then_ (Keeps.drew (HG1.out.trans hGx)) kA fun i hi e => by have := HS1.out; omega
    have hbA : Box wA w1.heap.size 24 (cells4 (f, f + (ar : Int), lo, hi)).toArray := hA
    have hsm : smallC (f, f + (ar : Int), lo, hi) := by unfold smallC; simp at e0 e2 e3 ha ⊢; omega
    have hg7 : w.heap.size ≤ w1.heap.size := by have := HS1.out; omega
    have HSM := Lib.hid hsm
    clear hA kA hb7 hGx hb3 c0 c1 c2 c3 d0 d1 d2 d3 e0 e2 e3 ha hw H3 HG1 HS1 hlt1 hsm i0 i1 i2 i3
    generalize w1.heap.size = g7 at *
    have hb0 := bnd_range st (4096 : Int).toNat
    have hn0 := arnd_lt many (64 : Int).toNat (by decide)
    have HBs := Lib.hid (bnd' st 4096 wA hs (by omega) (by omega))
    have HAm := Lib.hid (arnd' many 64 wA hm (by omega) (by omega))
    generalize bnd st (4096 : Int).toNat = s at *
    generalize arnd many (64 : Int).toNat = an at *
    simp at hb0 hn0
    obtain ⟨hs1, hs2⟩ := hb0
    have HBA := Lib.hid hbA
    have HGA := Lib.hid hGA
    clear hbA hGA
    go_wp2_with fail
    refine HBs.out.mono ?_
    rintro e w' ⟨rfl, hw'⟩
    rw [hw']
    clear hw'
    go_wp2_with fail
    refine HAm.out.mono ?_
    rintro e w' ⟨rfl, hw'⟩
    rw [hw']
    clear hw' HBs HAm
    obtain ⟨n, hn⟩ : ∃ n : Nat, n = 16 + an := ⟨_, rfl⟩
    have hnn : (16 : Int) + (an : Int) = (n : Int) := by omega
    have hn1 : 16 ≤ n := by omega
    have hn2 : n ≤ 79 := by omega
    have HNN := Lib.hid hnn
    clear hnn hn
    go_wp2_with fail
    rw [HNN.out]
    clear HNN hn0
    have H0 := Lib.hid (show Box wA g7 24 (cells4 (arC (f, f + (ar : Int), lo, hi) s 0)).toArray by rw [arC_zero]; exact HBA.out)
    obtain ⟨x, hx⟩ : ∃ x : Clm, x = (f, f + (ar : Int), lo, hi) := ⟨_, rfl⟩
    rw [← hx] at H0 HSM
    clear hx HBA
    go_loopw [10, 11, 12] (fun a b i wr => ∃ (j : Nat) (A B : Option Addr) (ca cb : Nat), j ≤ n + 64 ∧ i = .int .i64 j ∧ a = .slice A j ca ∧ b = .slice B j cb ∧ MineC wr w.heap.size (.slice A j ca) (arCs x s j) ∧ Off (.slice A j ca) g7 ∧ Mine wr w.heap.size 3 (.slice B j cb) ((arIs x.1 s j).map vi) ∧ Box wr g7 24 (cells4 (arC x s j)).toArray ∧ Grew w wr)
      (fun _ _ i _ => n + 64 - (intOf i).toNat)
    case atStart => exact ⟨0, none, none, 0, 0, by omega, rfl, rfl, rfl, MineC.nil _ _, Off.nil _, Mine.nil _ _ _, H0.out, HGA.out⟩
    case round =>
      clear H0 HGA
      obtain ⟨j, A, B, ca, cb, hj, rfl, rfl, rfl, hM, hO, hI, hb, hG⟩ := hrel
      have hsz := hG.size
      by_cases hlt : j < n + 64
      · have l1 := Lib.hid (arCs_length x s j)
        have l2 : ((arIs x.1 s j).map vi).length = j := by rw [List.length_map, arIs_length]
        have L2 := Lib.hid l2
        have hn5 : (arCs x s j).length < 1099511627776 := by rw [arCs_length]; omega
        have hn6 : ((arIs x.1 s j).map vi).length < 1099511627776 := by omega
        have X1 := Lib.hid (ar_nx (j := j) (f := x.1) (s := s) HSM.out.1 (by have := HSM.out.2.1; omega) hs1 hs2 (by omega))
        have X2 := Lib.hid (ar_nx (j := j) (f := x.2.1) (s := s) HSM.out.2.2.1 HSM.out.2.2.2.1 hs1 hs2 (by omega))
        obtain ⟨b0, b1, b2, b3⟩ := hb.four
        have hltg := hb.lt
        clear l2
        go_wp2_with (first | (at_builtin; refine app_oneC rfl (.tmp 44) (.tmp 46) rfl rfl (hM.alloc _) wr.heap.size 1 (arC x s j) 24 rfl (Nat.le_refl _) (Box.new wr 24 _) hn5 (by simp; omega) ?_; intro r cap w6 hM6 hk6 hr6 hbr6 hlr6; rw [l1.out] at hM6 ⊢; have hb6 := (hb.alloc _).asideC hO hk6; have hI6 := (hI.alloc _).keep hk6 (fun k h e => hM.ne_mine hI (by decide) e h); have hG6 := Grew.appC (hG.alloc _) (hM.alloc _) hk6; have hs6 := hG6.size; clear b0 b1 b2 b3; obtain ⟨b0, b1, b2, b3⟩ := hb6.four) | (at_builtin; refine app_one slInt rfl (.tmp 48) (.tmp 51) rfl rfl (hI6.alloc _) w6.heap.size 1 (.int .i64 (arC x s j).1) rfl (Nat.le_refl _) (by simp) (by simp) rfl hn6 (by simp; omega) ?_; intro r2 cap2 w7 hI7 hk7 hr7 hbr7 hlr7; rw [L2.out] at hI7 ⊢; have hb7 := (hb6.alloc _).keep hk7 (fun e => hI6.ne_box e hb6 (by decide) rfl); have hM7 := (hM6.alloc _).keep hk7 (fun k h e => hM6.ne_mine hI6 (by decide) h e); have hG7 := (hG6.alloc _).app (hI6.alloc _) hk7; clear b0 b1 b2 b3; obtain ⟨b0, b1, b2, b3⟩ := hb7.four) | (refine st1c (.tmp 57) (.tmp 56) g7 0 (by decide) (wrap64 ((arC x s j).1 + s)) (arC x s j) 24 rfl rfl rfl rfl hb7 ?_; intro wC hC kC; have c1 : wC.cell? ⟨g7, 1, none⟩ = some (.int .i64 (arC x s j).2.1) := hC.cell 1) | (refine st1c (.tmp 62) (.tmp 61) g7 1 (by decide) (wrap64 ((arC x s j).2.1 + s)) (setC (arC x s j) 0 (wrap64 ((arC x s j).1 + s))) 24 rfl rfl rfl rfl hC ?_; intro wD hD kD))
        have hD2 : Box wD g7 24 (cells4 (arC x s (j + 1))).toArray := by
          have e1 : wrap64 ((arC x s j).1 + s) = (arC x s (j + 1)).1 := X1.out
          have e2 : wrap64 ((arC x s j).2.1 + s) = (arC x s (j + 1)).2.1 := X2.out
          rw [e1, e2] at hD
          exact hD
        have hO6 : Off (.slice (some ⟨r, 0, none⟩) (j + 1) cap) g7 := fun q hq e => by
          have hrq : r = q := by simpa [Value.ownBlock] using hq
          rcases hr6 with h1 | h1
          · exact hO _ h1.symm (hrq.trans e)
          · simp only [World.size_alloc] at h1; omega
        have kCD := Keeps.trans kC kD
        have hM8 := hM7.keep kCD (fun k h e => hO6 k h e)
        have hI8 := hI7.keep kCD (fun k h e => hI7.ne_box h hb7 (by decide) e)
        have hG8 : Grew w wD := Keeps.then_ hG7 kCD fun i hi e => by omega
        rw [← arCs_succ] at hM8
        have hI9 : Mine wD w.heap.size 3 (.slice (some ⟨r2, 0, none⟩) (j + 1) cap2) ((arIs x.1 s (j + 1)).map vi) := by
          rw [arIs_succ, List.map_append]; exact hI8
        go_roundw
        case rel => exact ⟨j + 1, _, _, _, _, by omega, by go_num, rfl, rfl, hM8, hO6, hI9, hD2, hG8⟩
        case measure => simp [intOf]; omega
      · obtain rfl : j = n + 64 := by omega
        have hca : n + 64 ≤ ca := by
          obtain ⟨_, _, _, e, _, h1⟩ := hM.slice
          injection e with _ e1 e2
          omega
        have hcb : n + 64 ≤ cb := by
          have := hI.rd.form
          obtain ⟨_, _, _, e, _, h1⟩ := this
          injection e with _ e1 e2
          omega
        have rN := hM.rd
        have rn : RdC wr wr.heap.size (.slice A n ca) (arCs x s n) := by
          have := rN.take (m := n) (by rw [arCs_length]; omega)
          rwa [arCs_take x s _ _ (by omega)] at this
        have iN := hI.rd
        have iin : Rd wr wr.heap.size (.slice B n cb) ((arIs x.1 s n).map vi) := by
          have := iN.take (m := n) (by rw [List.length_map, arIs_length]; omega)
          rwa [← List.map_take, arIs_take x.1 s _ _ (by omega)] at this
        obtain ⟨gA, rfl⟩ := hM.some_ (by rw [arCs_length]; omega)
        obtain ⟨gB, rfl⟩ := hI.some_ (by rw [List.length_map, arIs_length]; omega)
        have okN := arC_ok HSM.out hs1 hs2 (m := n + 64) (by omega)
        have okn := arC_ok HSM.out hs1 hs2 (m := n) (by omega)
        have HZ1 := Lib.hid (fun (w' : World) (hg : Grew wr w') => size_any _ _ w' ((rN.grew (Nat.le_refl _) hg).more hg.size) (by rw [arCs_length]; omega) (HT.out.on (hG.trans hg)))
        have HZ2 := Lib.hid (fun (w' : World) (hg : Grew wr w') => size_any _ _ w' ((rn.grew (Nat.le_refl _) hg).more hg.size) (by rw [arCs_length]; omega) (HT.out.on (hG.trans hg)))
        have HI1 := Lib.hid (fun (w' : World) (hg : Grew wr w') => cints_any _ _ w' ((iN.grew (Nat.le_refl _) hg).more hg.size) (arI_ok HSM.out.1 HSM.out.2.1 hs1 hs2 (by omega)) (by rw [arIs_length]; omega) (HT.out.on (hG.trans hg)))
        have HI2 := Lib.hid (fun (w' : World) (hg : Grew wr w') => cints_any _ _ w' ((iin.grew (Nat.le_refl _) hg).more hg.size) (arI_ok HSM.out.1 HSM.out.2.1 hs1 hs2 (by omega)) (by rw [arIs_length]; omega) (HT.out.on (hG.trans hg)))
        obtain ⟨pc1, pc2⟩ := compact_claims x s n hn1 hn2
        have pi1 := compact_ints x.1 s n hn1 hn2
        have eN := encB_ok (encE_ok (cs := arCs x s (n + 64)) (by rw [arCs_length]; omega) okN)
        have en := encB_ok (encE_ok (cs := arCs x s n) (by rw [arCs_length]; omega) okn)
        rw [← eN] at pc1 pc2
        rw [← en] at pc1
        have bN := encB_len (arCs x s (n + 64))
        have bn := encB_len (arCs x s n)
        have qN : (pack (ints (arIs x.1 s (n + 64)))).length ≤ 200000 := by
          have h1 := code_len_le ((arIs x.1 s (n + 64)).length : Nat)
          have h2 := codes_len (seconds 0 0 (arIs x.1 s (n + 64)))
          rw [seconds_length, arIs_length] at h2
          rw [pack_length]; unfold ints
          rw [List.length_append]; omega
        have qn : (pack (ints (arIs x.1 s n))).length ≤ 200000 := by
          have h1 := code_len_le ((arIs x.1 s n).length : Nat)
          have h2 := codes_len (seconds 0 0 (arIs x.1 s n))
          rw [seconds_length, arIs_length] at h2
          rw [pack_length]; unfold ints
          rw [List.length_append]; omega
        clear okN okn eN en rN rn iN iin hb hM hO hI HSM
        generalize (encB (arCs x s (n + 64))).length = a at *
        generalize (encB (arCs x s n)).length = b at *
        generalize pack (ints (arIs x.1 s (n + 64))) = pp at *
        generalize pack (ints (arIs x.1 s n)) = qq at *
        have u1 : IntKind.i64.wrap ((a : Int) - (b : Int)) = (a : Int) - (b : Int) := IntWalk.i64_in _ (by omega)
        have u2 : decide (34 < (a : Int) - (b : Int)) = false := by rw [decide_eq_false_iff_not]; omega
        have u3 : IntKind.i64.wrap ((n : Int) + 64) = (n : Int) + 64 := IntWalk.i64_in _ (by omega)
        have u4 : IntKind.i64.wrap ((n : Int) + 62) = (n : Int) + 62 := IntWalk.i64_in _ (by omega)
        have u5 : IntKind.i64.wrap (4 * ((n : Int) + 62)) = 4 * ((n : Int) + 62) := IntWalk.i64_in _ (by omega)
        have u6 : IntKind.i64.wrap ((4 * ((n : Int) + 62)).tdiv 8) = 4 * ((n : Int) + 62) / 8 := IntWalk.i64_quo _ _ (by omega)
        have u7 : decide ((a : Int) < 4 * ((n : Int) + 62) / 8) = false := by rw [decide_eq_false_iff_not]; omega
        have u8 : IntKind.i64.wrap ((pp.length : Int) - (qq.length : Int)) = (pp.length : Int) - (qq.length : Int) := IntWalk.i64_in _ (by omega)
        have u9 : decide (10 < (pp.length : Int) - (qq.length : Int)) = false := by rw [decide_eq_false_iff_not]; omega
        have v1 : (0 : Int) ≤ (n : Int) + 64 := by omega
        have v2 : (n : Int) + 64 ≤ (ca : Int) := by omega
        have v3 : (n : Int) + 64 ≤ (cb : Int) := by omega
        have v4 : (n : Int) ≤ (ca : Int) := by omega
        have v5 : (n : Int) ≤ (cb : Int) := by omega
        have v6 : ((n : Int) + 64).toNat = n + 64 := by omega
        go_wp2_with fail
        go_region_held3 (fun w' => Grew wr w') (first | assumption | exact Grew.trans (by assumption) gz | exact Keeps.drew (by assumption) | exact Keeps.drew (Grew.refl _))
          (first
            | (go_at_call 41; (with_reducible refine (HZ1.out _ (by assumption)).mono ?_); rintro e wz ⟨rfl, gz⟩)
            | (go_at_call 41; (with_reducible refine (HZ2.out _ (by assumption)).mono ?_); rintro e wz ⟨rfl, gz⟩)
            | (go_at_call 23; (with_reducible refine (HI1.out _ (by assumption)).mono ?_); rintro e wz ⟨vv, rfl, mm, gz⟩; obtain ⟨Av, cv, rfl⟩ := mm.len_form)
            | (go_at_call 23; (with_reducible refine (HI2.out _ (by assumption)).mono ?_); rintro e wz ⟨vv, rfl, mm, gz⟩; obtain ⟨Av, cv, rfl⟩ := mm.len_form))
        have gH : Grew wr wz := by assumption
        have hGz := hG.trans gH
        obtain ⟨wy, hwy⟩ : ∃ wy, wy = wz := ⟨_, rfl⟩
        rw [← hwy] at hGz ⊢
        clear hwy gH u1 u2 u3 u4 u5 u6 u7 u8 u9 v1 v2 v3 v4 v5 v6 HZ1 HZ2 HI1 HI2 pc1 pc2 pi1 bN bn qN qn hca hcb
        obtain ⟨Z, hmk, hZ⟩ := make_over
        have hG2 := hGz.alloc (.cells Z 24)
        have ro : RdC (wy.alloc (.cells Z 24)) (wy.heap.size + 1) (.slice (some ⟨wy.heap.size, 0, none⟩) 4097 4097) (List.replicate 4097 zc) := zrow_rd wy Z hZ 0 4097 4097 (by omega) (by omega)
        have ro2 : RdC (wy.alloc (.cells Z 24)) (wy.heap.size + 1) (.slice (some ⟨wy.heap.size, 4, none⟩) 4096 4096) (List.replicate 4096 zc) := zrow_rd wy Z hZ 4 4096 4096 (by omega) (by omega)
        have hsz2 : (wy.alloc (.cells Z 24)).heap.size = wy.heap.size + 1 := World.size_alloc _ _
        rw [← hsz2] at ro ro2
        have hl1 : (List.replicate 4097 zc).length = 4097 := List.length_replicate
        have hl2 : (List.replicate 4096 zc).length = 4096 := List.length_replicate
        have E1 := Lib.hid (encE_long (cs := List.replicate 4097 zc) (by rw [hl1]; omega))
        have E2 := Lib.hid (encE_ok (cs := List.replicate 4096 zc) (by rw [hl2]; omega) (fun c hc => by rw [List.eq_of_mem_replicate hc]; exact ok_zc))
        have hpos : 0 < (encB (List.replicate 4096 zc)).length := by rw [encB_ok E2.out]; exact pack_pos (cbits_pos _)
        have hbig := encB_len (List.replicate 4096 zc)
        have hz0 : (encB (List.replicate 4097 zc)).length = 0 := by rw [encB_no (by rw [E1.out]; decide)]; rfl
        have HE := Lib.hid (encode_any _ (List.replicate 4097 zc) _ ro (by rw [hl1]; omega) (HT.out.on hG2))
        have HZ1 := Lib.hid (fun (w' : World) (hg : Grew (wy.alloc (.cells Z 24)) w') => size_any _ (List.replicate 4097 zc) w' ((ro.grew (Nat.le_refl _) hg).more hg.size) (by rw [hl1]; omega) (HT.out.on (hG2.trans hg)))
        have HZ2 := Lib.hid (fun (w' : World) (hg : Grew (wy.alloc (.cells Z 24)) w') => size_any _ (List.replicate 4096 zc) w' ((ro2.grew (Nat.le_refl _) hg).more hg.size) (by rw [hl2]; omega) (HT.out.on (hG2.trans hg)))
        rw [hz0] at HZ1
        have HG2 := Lib.hid hG2
        clear hZ ro ro2 hsz2 hl1 hl2 hz0 hG2 hGz hG
        generalize (encB (List.replicate 4096 zc)).length = sz at *
        go_wp2_with fail
        refine HE.out.mono ?_
        rintro e w4 ⟨p1, ⟨p2, -⟩ | ⟨-, rfl⟩⟩
        · exact absurd (p2.symm.trans E1.out) (by decide)
        rw [E1.out]
        have HS1 := Lib.hid (HZ1.out w4 p1)
        clear HE E1 E2
        go_wp2_with fail
        refine HS1.out.mono ?_
        rintro e w5 ⟨rfl, p5⟩
        have p15 := Grew.trans p1 p5
        have HS2 := Lib.hid (HZ2.out w5 p15)
        have tpos : decide ((0 : Int) < (sz : Int)) = true := by rw [decide_eq_true_eq]; omega
        have tpos' : decide (0 < sz) = true := by rw [decide_eq_true_eq]; omega
        clear HS1 HZ1 HZ2
        go_wp2_with fail
        refine HS2.out.mono ?_
        rintro e w6 ⟨rfl, p6⟩
        have hG6 := (HG2.out.trans p15).trans p6
        have HL := Lib.hid (lives_any w6 (HT.out.on hG6))
        clear HS2
        go_wp2_with fail
        refine HL.out.mono ?_
        rintro e w7 ⟨rfl, s1⟩
        go_wp2_with fail
        go_ret
        exact ⟨rfl, hG6.trans s1⟩
end Go.Proofs.YtoojacpkbmgaeaaDoor
