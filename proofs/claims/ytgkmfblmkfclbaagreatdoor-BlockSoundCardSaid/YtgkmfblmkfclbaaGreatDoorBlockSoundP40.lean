/- The contract of slices.SortFunc at claims, laid at this program. claims.Sort: the claims in another order, in a row of the call's own. lossy.finish: new claims that the old ones imply, sorted, with their cost. -/
import Derived.Shelf.SlSortCmp.WholeK
import Derived.Test.YtgkmfblmkfclbaaGreatDoorProg
import Derived.Test.YtgkmfblmkfclbaaGreatDoorBlockSoundP33
import Derived.Test.YtgkmfblmkfclbaaGreatDoorBlockSoundP10
import Derived.Test.YtgkmfblmkfclbaaGreatDoorBlockSoundP04
import Derived.Shelf.SlSortCmp.NoneTotal
import Derived.Test.YtgkmfblmkfclbaaGreatDoorBlockSoundP37
namespace Go.Proofs.YtgkmfblmkfclbaaGreatDoor
open Go.Shelf
def sortC_ren : Go.Shelf.Ren := ⟨fun | 6 => 77 | 15 => 94 | 14 => 93 | 28 => 111 | 29 => 112 | 20 => 103 | 21 => 104 | 22 => 105 | 23 => 106 | 24 => 107 | 25 => 108 | 26 => 109 | 27 => 110 | 46 => 115 | 47 => 116 | 48 => 117 | 49 => 118 | 50 => 119 | 57 => 120 | n => n, fun | 22 => 29 | 24 => 82 | 25 => 136 | 3 => 3 | 39 => 92 | 0 => 0 | 53 => 145 | 55 => 65 | 4 => 4 | 46 => 163 | 45 => 162 | 50 => 122 | 5 => 5 | 9 => 9 | 66 => 170 | 70 => 173 | 76 => 175 | 77 => 176 | n => n, fun | n => n⟩
theorem sortC : Go.Proofs.SlLaysF0.n6 Tryz.prog sortC_ren := {
  mixed := by kernel_rfl
  f6 := ⟨Tryz.f77.name, by decide, Tryz.func77.trans (congrArg some (by kernel_rfl))⟩
  f14 := ⟨Tryz.f93.name, by decide, Tryz.func93.trans (congrArg some (by kernel_rfl))⟩
  f15 := Tryz.func94.trans (congrArg some (by kernel_rfl))
  f20 := ⟨Tryz.f103.name, by decide, Tryz.func103.trans (congrArg some (by kernel_rfl))⟩
  f21 := ⟨Tryz.f104.name, by decide, Tryz.func104.trans (congrArg some (by kernel_rfl))⟩
  f22 := ⟨Tryz.f105.name, by decide, Tryz.func105.trans (congrArg some (by kernel_rfl))⟩
  f23 := ⟨Tryz.f106.name, by decide, Tryz.func106.trans (congrArg some (by kernel_rfl))⟩
  f24 := ⟨Tryz.f107.name, by decide, Tryz.func107.trans (congrArg some (by kernel_rfl))⟩
  f25 := ⟨Tryz.f108.name, by decide, Tryz.func108.trans (congrArg some (by kernel_rfl))⟩
  f26 := ⟨Tryz.f109.name, by decide, Tryz.func109.trans (congrArg some (by kernel_rfl))⟩
  f27 := ⟨Tryz.f110.name, by decide, Tryz.func110.trans (congrArg some (by kernel_rfl))⟩
  f28 := Tryz.func111.trans (congrArg some (by kernel_rfl))
  f29 := Tryz.func112.trans (congrArg some (by kernel_rfl))
  f46 := ⟨Tryz.f115.name, by decide, Tryz.func115.trans (congrArg some (by kernel_rfl))⟩
  f47 := Tryz.func116.trans (congrArg some (by kernel_rfl))
  f48 := Tryz.func117.trans (congrArg some (by kernel_rfl))
  f49 := ⟨Tryz.f118.name, by decide, Tryz.func118.trans (congrArg some (by kernel_rfl))⟩
  f50 := ⟨Tryz.f119.name, by decide, Tryz.func119.trans (congrArg some (by kernel_rfl))⟩
  f57 := ⟨Tryz.f120.name, by decide, Tryz.func120.trans (congrArg some (by kernel_rfl))⟩
  t0 := Tryz.underlying0
  a0 := Tryz.isAgg0
  z0 := Tryz.sizeOf0
  v0 := Tryz.zeroValue0
  t3 := Tryz.underlying3
  a3 := Tryz.isAgg3
  z3 := Tryz.sizeOf3
  v3 := Tryz.zeroValue3
  t4 := Tryz.underlying4
  a4 := Tryz.isAgg4
  z4 := Tryz.sizeOf4
  v4 := Tryz.zeroValue4
  t5 := Tryz.underlying5
  a5 := Tryz.isAgg5
  z5 := Tryz.sizeOf5
  v5 := Tryz.zeroValue5
  t9 := Tryz.underlying9
  a9 := Tryz.isAgg9
  z9 := Tryz.sizeOf9
  v9 := Tryz.zeroValue9
  t22 := Tryz.underlying29
  a22 := Tryz.isAgg29
  z22 := Tryz.sizeOf29
  v22 := Tryz.zeroValue29
  t25 := Tryz.underlying136
  a25 := Tryz.isAgg136
  z25 := Tryz.sizeOf136
  v25 := Tryz.zeroValue136
  t39 := Tryz.underlying92
  a39 := Tryz.isAgg92
  z39 := Tryz.sizeOf92
  v39 := Tryz.zeroValue92
  t45 := Tryz.underlying162
  a45 := Tryz.isAgg162
  z45 := Tryz.sizeOf162
  v45 := Tryz.zeroValue162
  t46 := Tryz.underlying163
  a46 := Tryz.isAgg163
  z46 := Tryz.sizeOf163
  v46 := Tryz.zeroValue163
  t50 := Tryz.underlying122
  a50 := Tryz.isAgg122
  z50 := Tryz.sizeOf122
  v50 := Tryz.zeroValue122
  t53 := Tryz.underlying145
  a53 := Tryz.isAgg145
  z53 := Tryz.sizeOf145
  v53 := Tryz.zeroValue145
  t55 := Tryz.underlying65
  a55 := Tryz.isAgg65
  z55 := Tryz.sizeOf65
  v55 := Tryz.zeroValue65
  t66 := Tryz.underlying170
  a66 := Tryz.isAgg170
  z66 := Tryz.sizeOf170
  v66 := Tryz.zeroValue170
  t70 := Tryz.underlying173
  a70 := Tryz.isAgg173
  z70 := Tryz.sizeOf173
  v70 := Tryz.zeroValue173
  t76 := Tryz.underlying175
  a76 := Tryz.isAgg175
  z76 := Tryz.sizeOf175
  v76 := Tryz.zeroValue175
  t77 := Tryz.underlying176
  a77 := Tryz.isAgg176
  z77 := Tryz.sizeOf176
  v77 := Tryz.zeroValue176 }
end Go.Proofs.YtgkmfblmkfclbaaGreatDoor
namespace Go.Proofs.YtgkmfblmkfclbaaGreatDoor
open Go.RowKit Pl Go.Shelf Go.Sort

theorem cmpC_lt (x y : Clm) : cmpC x y < 0 ↔ (x.1 < y.1 ∨ x.1 = y.1 ∧ (x.2.1 < y.2.1 ∨ x.2.1 = y.2.1 ∧ (x.2.2.1 < y.2.2.1 ∨ x.2.2.1 = y.2.2.1 ∧ x.2.2.2 < y.2.2.2))) := by
  unfold cmpC cmpI
  repeat' split
  all_goals omega
theorem swo_cmpC : SWO (ltOf cmpC) := by
  constructor
  · intro x
    unfold ltOf
    rw [decide_eq_false_iff_not, cmpC_lt]
    omega
  · intro x y z
    unfold ltOf
    simp only [decide_eq_true_eq, cmpC_lt]
    omega
  · intro x y z
    unfold ltOf
    simp only [decide_eq_false_iff_not, cmpC_lt]
    omega
theorem cmp_lays (blk off size : Nat) (w : World) : CmpLays Tryz.prog 78 #[] cells4 4 cmpC blk off size w := fun m os dk _ x y => by
  refine (compare_any x y (sortWorldK cells4 4 w blk off m dk os)).mono ?_
  rintro e w' ⟨he, hg⟩
  exact ⟨he, hg.grow⟩
theorem flatK_eq (cs : List Clm) : (flatK cells4 4 cs.toArray).toList = flat cs := by
  apply List.ext_getElem?
  intro t
  by_cases ht : t < cs.length * 4
  · have h1 : t / 4 < cs.length := by omega
    have h2 := flat_at (cs := cs) (j := t / 4) (k := t % 4) h1 (Nat.mod_lt _ (by omega))
    rw [show t / 4 * 4 + t % 4 = t by omega] at h2
    rw [h2]
    have h3 : (flatK cells4 4 cs.toArray)[t]! = (cells4 cs.toArray[t / 4]!)[t % 4]! := get_flatK _ _ _ _ (by simpa using ht)
    have h4 : t < (flatK cells4 4 cs.toArray).size := by simpa using ht
    rw [getElem!_pos _ t h4] at h3
    rw [Array.getElem?_toList, Array.getElem?_eq_getElem h4, h3]
    have h5 : cs.toArray[t / 4]! = cs.getD (t / 4) zc := by
      rw [getElem!_pos _ _ (by simpa using h1), List.getD_eq_getElem?_getD, List.getElem?_eq_getElem h1]
      simp
    rw [h5]
    have h6 : t % 4 < (cells4 (cs.getD (t / 4) zc)).length := Nat.mod_lt _ (by decide)
    rw [getElem!_pos (cells4 (cs.getD (t / 4) zc)) (t % 4) h6, List.getElem?_eq_getElem h6]
  · rw [List.getElem?_eq_none (by simp; omega), List.getElem?_eq_none (by rw [flat_length]; omega)]
section
variable {w : World} {g : Nat} {t : TypeId} {cur : Array Value}
theorem box_put (h : Box w g t cur) (m : Nat) (F : Array Value) (os : Array Obj) : Box (Sort.grow (Sort.putRow id (Sort.ahead w m) g 0 F) os) g t (putCells id 0 F cur) := by
  have hlt := h.lt
  unfold Box at *
  unfold Sort.grow Sort.putRow Sort.mapBlock Sort.ahead
  simp only
  rw [Array.getElem?_append_left (by simpa using hlt), Array.getElem?_modify, if_pos rfl, h]
  rfl
theorem keeps_put (w : World) (g m : Nat) (F : Array Value) (os : Array Obj) : Keeps (fun i => i = g) w (Sort.grow (Sort.putRow id (Sort.ahead w m) g 0 F) os) := by
  refine ⟨rfl, rfl, rfl, ?_, fun k hk hn => ?_⟩
  · unfold Sort.grow Sort.putRow Sort.mapBlock Sort.ahead; simp
  · unfold Sort.grow Sort.putRow Sort.mapBlock Sort.ahead
    simp only
    rw [Array.getElem?_append_left (by simpa using hk), Array.getElem?_modify, if_neg (fun e => hn e.symm)]
theorem put_take {cs : List Clm} (hc : cs.length * 4 ≤ cur.size) : (putCells id 0 (flatK cells4 4 cs.toArray) cur).size = cur.size ∧ (putCells id 0 (flatK cells4 4 cs.toArray) cur).toList.take (cs.length * 4) = flat cs := by
  refine ⟨by simp [putCells], ?_⟩
  apply List.ext_getElem?
  intro k
  rw [List.getElem?_take]
  split
  · rename_i hk
    rw [Array.getElem?_toList]
    unfold putCells
    rw [Array.getElem?_mapIdx, Array.getElem?_eq_getElem (by omega)]
    simp only [Option.map_some]
    rw [if_pos ⟨by omega, by simpa using hk⟩]
    have h4 : k < (flatK cells4 4 cs.toArray).size := by simpa using hk
    rw [← flatK_eq, Array.getElem?_toList, Array.getElem?_eq_getElem h4]
    simp only [Nat.sub_zero, id]
    rw [getElem!_pos _ k h4]
  · rename_i hk
    rw [List.getElem?_eq_none (by rw [flat_length]; omega)]
end
theorem MineC.empty (w : World) : MineC (w.alloc (.cells #[] 82)) w.heap.size (.slice (some ⟨w.heap.size, 0, none⟩) 0 0) [] :=
  ⟨rfl, .inr ⟨w.heap.size, 0, #[], rfl, Nat.le_refl _, Box.new w _ _, Nat.le_refl _, by unfold maxLen; omega, rfl, rfl⟩⟩
set_option maxHeartbeats 800000 in
set_option maxRecDepth 100000 in
theorem cclone_any (v : Value) (cs : List Clm) (w : World) (h : RdC w w.heap.size v cs) (hs : cs.length ≤ 1000000) :
    Calls Tryz.prog 54 #[v] w fun e w' => ∃ v', e = .returned v' ∧ MineC w' w.heap.size v' cs ∧ Grew w w' := by
  have hnil := fun (W : World) (a : Option Addr) (n c n' c' : Nat) => Lib.run_eql_slice_nil (P := Tryz.prog) W 29 82 a n c n' c' Tryz.underlying29
  have h1 := h.grew (Nat.le_refl _) ((Grew.refl w).alloc (.cells #[] 82))
  obtain ⟨A, n, c, rfl, hn, hc⟩ := h.form
  have HN := Lib.hid hn
  rcases A with _ | ad
  · obtain rfl : cs = [] := by
      rcases cs with _ | ⟨y, ys⟩
      · rfl
      · obtain ⟨A', c', hv, _, hx⟩ := h
        injection hv with e
        subst e
        obtain ⟨g, o, hh, _⟩ := hx (by simp)
        cases hh
    clear h1 hn
    go_enter Tryz.func54, Tryz.ntmps54
    go_wp2_with fail
    go_ret
    exact ⟨_, rfl, MineC.nil _ _, Grew.refl _⟩
  · clear hn
    go_enter Tryz.func54, Tryz.ntmps54
    go_wp2_with (at_builtin; refine app_anyC rfl (.tmp 5) (.tmp 6) rfl rfl (MineC.empty w) rfl h1 (by simp; omega) (by simp) ?k)
    case k =>
    intro A m cap w1 hm hown hk hr
    go_wp2
    go_ret
    refine ⟨_, rfl, by simpa using hown, ?_⟩
    exact ((Keeps.refl _ w).alloc _).then_ hk (fun i hi e => by
      have : w.heap.size = i := by simpa [Value.ownBlock] using e
      omega)
theorem sortf_any (v : Value) (cs : List Clm) (base : Nat) (w : World) (h : MineC w base v cs) (hl : cs.length ≤ 1000000) :
    Calls Tryz.prog 77 #[v, .func (.func 78) #[] #[]] w fun e w' =>
      e = .returned (.tuple #[]) ∧ ∃ cs' : List Clm, cs'.Perm cs ∧ SortedIn (ltOf cmpC) 0 cs.length cs'.toArray ∧ MineC w' base v cs' ∧ Keeps (fun i => v.ownBlock = some i) w w' := by
  rcases h.form with ⟨rfl, rfl⟩ | ⟨g, cap, cur, rfl, hb, hbox, h1, h2, h3, h4⟩
  · have hc := AnyF.slices_SortFunc_none sortC none 0 (.func (.func 78) #[] #[]) w
    refine Calls.mono (show Calls Tryz.prog 77 _ _ _ from hc) ?_
    rintro e w' ⟨rfl, rfl⟩
    exact ⟨rfl, [], List.Perm.refl _, fun i j _ _ hj => by simp at hj, MineC.nil _ _, Keeps.refl _ _⟩
  · have hH : HoldsK cells4 4 w g 0 cs.toArray := fun j hj => by
      have hj' : j < cs.length * 4 := by simpa using hj
      refine ⟨?_, hbox.frozen _⟩
      rw [Nat.zero_add, hbox.cell, ← Array.getElem?_toList]
      have e1 : cur.toList[j]? = (flat cs)[j]? := by rw [← h4, List.getElem?_take, if_pos hj']
      rw [e1, ← flatK_eq, Array.getElem?_toList, Array.getElem?_eq_getElem hj]
      simp only [id]
      rw [getElem!_pos _ j hj]
    have hc := AnyQ.slices_SortFunc sortC 4 Tryz.isAgg82 Tryz.sizeOf82 cells4 (fun _ => rfl) (fun x v hv => by simp [cells4] at hv; rcases hv with rfl | rfl | rfl | rfl <;> rfl) cmpC swo_cmpC 78 #[] g 0 cap cs.toArray w (enters_of Tryz.func78 (by kernel_rfl) rfl) (cmp_lays g 0 _ w) hH hbox.lt (by simp; omega)
    refine Calls.mono (show Calls Tryz.prog 77 #[.slice (some ⟨g, 0, none⟩) cs.length cap, .func (.func 78) #[] #[]] w _ from hc) ?_
    rintro e w' ⟨rfl, d', n, os, hp, hs, rfl⟩
    obtain ⟨hp1, _, hp3⟩ := hp
    have hd : d'.toList.length = cs.length := by simpa using hp1
    have hpm : d'.toList.Perm cs := by
      have e1 : (d'.extract 0 cs.toArray.size).toList = d'.toList := by
        rw [← hp1]; simp
      have e2 : (cs.toArray.extract 0 cs.toArray.size).toList = cs := by simp
      rw [e1, e2] at hp3
      exact hp3
    have hw : sortWorldK cells4 4 w g 0 n d' os = Sort.grow (Sort.putRow id (Sort.ahead w n) g 0 (flatK cells4 4 d'.toList.toArray)) os := by
      unfold sortWorldK putRowK; simp
    have hput := put_take (cur := cur) (cs := d'.toList) (by rw [hd, h3]; omega)
    refine ⟨rfl, d'.toList, hpm, by simpa using hs, ?_, ?_⟩
    · rw [hw]
      refine ⟨by rw [flat_length], .inr ⟨g, cap, _, by rw [hd], hb, box_put hbox n _ os, by rw [hd]; exact h1, h2, by rw [hput.1]; exact h3, hput.2⟩⟩
    · rw [hw]
      exact (keeps_put w g n _ os).mono (fun i _ e => by subst e; rfl)

set_option maxHeartbeats 800000 in
theorem csort_any (v : Value) (cs : List Clm) (w : World) (h : RdC w w.heap.size v cs) (hl : cs.length ≤ 1000000) :
    Calls Tryz.prog 58 #[v] w fun e w' => ∃ v' cs', e = .returned v' ∧ cs'.Perm cs ∧ MineC w' w.heap.size v' cs' ∧ Grew w w' := by
  have HC := Lib.hid (cclone_any v cs w h hl)
  obtain ⟨A, n, c, rfl, -, -⟩ := h.form
  clear h
  go_enter Tryz.func58, Tryz.ntmps58
  go_wp2_with fail
  refine HC.out.mono ?_
  rintro e w1 ⟨v1, rfl, m1, k1⟩
  have HS := Lib.hid (sortf_any v1 cs w.heap.size w1 m1 hl)
  obtain ⟨A1, n1, c1, rfl, -, -⟩ := m1.slice
  go_wp2_with fail
  refine HS.out.mono ?_
  rintro e w2 ⟨rfl, cs', hp, -, m2, k2⟩
  have hG : Grew w w2 := Keeps.then_ k1 k2 (fun i hi e => by have := (m1.lt i e).1; omega)
  go_wp2_with fail
  go_ret
  exact ⟨_, cs', rfl, hp, m2, hG⟩
end Go.Proofs.YtgkmfblmkfclbaaGreatDoor
namespace Go.Proofs.YtgkmfblmkfclbaaGreatDoor
open Go.RowKit Pl

set_option maxHeartbeats 6400000 in
set_option maxRecDepth 100000 in
theorem finish_any (nm : ByteArray) (A : Option Addr) (n c : Nat) (ls : List (ByteArray × ByteArray)) (x : Fin 10 → Int) (v u : Value) (cs ds : List Clm) (w : World) (hnm : Low nm) (hL : RdL w (.slice A n c) ls) (hls : GoodL ls) (hx : GoodD x) (hr : RdC w w.heap.size v cs) (hv : ∀ c ∈ cs, ValidC x c) (hl : cs.length + spanD x ≤ 4096) (hc : clashB x (spanD x) cs = false) (hr' : RdC w w.heap.size u ds) (hd : ∀ c ∈ ds, Implied (x 7) (spanD x) (boundE x (spanD x) cs) c ∧ ValidC x c) (hl' : ds.length ≤ cs.length + spanD x) :
    Calls Tryz.prog 56 #[vdecl nm (.slice A n c) x, v, u] w (CompPost x (spanD x) cs w) := by
  have hcl := clash_none hx hv hc hd
  have HC := Lib.hid (fun w' (g : Grew w w') => cost_any nm A n c ls x v u cs ds w' hnm (hL.grew g) hls hx ((hr.grew (Nat.le_refl _) g).more g.size) hv (by omega) hc ((hr'.grew (Nat.le_refl _) g).more g.size) (fun c hm => (hd c hm).2) (by omega) hcl)
  have HS := Lib.hid (fun w' (g : Grew w w') => csort_any u ds w' ((hr'.grew (Nat.le_refl _) g).more g.size) (by omega))
  have HD := Lib.hid hd
  have HLn := Lib.hid hl'
  have hbd : Box (w.alloc (.cells (cells12 nm (.slice A n c) x).toArray 27)) w.heap.size 27 (cells12 nm (.slice A n c) x).toArray := Box.new _ _ _
  have hG0 := (Grew.refl w).alloc (.cells (cells12 nm (.slice A n c) x).toArray 27)
  obtain ⟨A1, m1, q1, rfl, -, -⟩ := hr.form
  obtain ⟨A2, m2, q2, rfl, hm2, -⟩ := hr'.form
  have hm : m2 ≤ 4096 := by omega
  generalize hNN : spanD x = N at *
  have HP := Lib.hid (fun (es : List Clm) (h : es.Perm ds) => boundE_perm x N h)
  generalize hgv : growV (boundE x N cs) (boundE x N ds) N = gv at *
  have HGv := Lib.hid hgv
  have tm : decide ((4096 : Int) < (m2 : Int)) = false := by simp; omega
  clear hr hr' hv hc hL hls hx hnm hNN hd hl hl' hcl hm2 hgv
  rw [vdecl_cells]
  rw [vdecl_cells] at HC
  go_enter Tryz.func56, Tryz.ntmps56
  go_upto_region 1 with fail
  generalize w.alloc (.cells (cells12 nm (.slice A n c) x).toArray 27) = w1 at *
  go_wp2_with (refine ldN 27 Tryz.underlying27 rfl (.tmp 3) w.heap.size (cells12 nm (.slice A n c) x) 27 info12 rfl rfl rfl hbd ?_)
  refine (HC.out w1 hG0).mono ?_
  rintro e w2 ⟨rfl, k2⟩
  have hG2 := hG0.trans k2
  have HG2 := Lib.hid hG2
  have HSo := Lib.hid (HS.out w2 hG2)
  clear hbd hG0 hG2 k2 HC HS
  go_wp2_with fail
  refine HSo.out.mono ?_
  rintro e w3 ⟨v3, es, rfl, hp, m3, k3⟩
  obtain ⟨A3, m3', q3, rfl, -, -⟩ := m3.slice
  have HR := Lib.hid (show CompPost x N cs w (.returned (.tuple #[.slice A3 m3' q3, .int .i64 gv, .int .i64 0])) w3 from
    .intro _ ⟨_, _, es, gv, rfl, by rw [HP.out es hp, HGv.out], m3.base_le HG2.out.size, fun c hm => HD.out c (hp.mem_iff.1 hm), by rw [hp.length_eq]; exact HLn.out, HG2.out.trans k3⟩)
  clear hp m3 k3 HSo
  go_wp2_with fail
  exact bodyPost_ret (v := .tuple #[.slice A3 m3' q3, .int .i64 gv, .int .i64 0]) (by simp [results, Tryz.results56, go_sem]) rfl HR.out
end Go.Proofs.YtgkmfblmkfclbaaGreatDoor
