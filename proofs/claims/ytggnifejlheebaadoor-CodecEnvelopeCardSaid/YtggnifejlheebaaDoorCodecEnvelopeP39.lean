/- claims.Sort: the claims in another order, in a row of the call's own. -/
import Derived.Test.YtggnifejlheebaaDoorCodecEnvelopeP38
import Derived.Test.YtggnifejlheebaaDoorCodecEnvelopeP29
import Derived.Test.YtggnifejlheebaaDoorCodecEnvelopeP16
import Derived.Test.YtggnifejlheebaaDoorCodecEnvelopeP05
import Derived.Shelf.SlSortCmp.NoneTotal
namespace Go.Proofs.YtggnifejlheebaaDoor
open Go.RowKit Pl Go.Shelf Go.Sort

theorem cmpC_lt (x y : Clm) : cmpC x y < 0 ↔ (x.1 < y.1 ∨ x.1 = y.1 ∧ (x.2.1 < y.2.1 ∨ x.2.1 = y.2.1 ∧ (x.2.2.1 < y.2.2.1 ∨ x.2.2.1 = y.2.2.1 ∧ x.2.2.2 < y.2.2.2))) := by
  unfold cmpC cmpI
  repeat' split
  all_goals omega
theorem swo_cmpC : SWO (ltOf cmpC) := by
  constructor
  · intro x
    unfold ltOf
    rw [decide_eq_false_iff_not, cmpC_lt]
    omega
  · intro x y z
    unfold ltOf
    simp only [decide_eq_true_eq, cmpC_lt]
    omega
  · intro x y z
    unfold ltOf
    simp only [decide_eq_false_iff_not, cmpC_lt]
    omega
theorem cmp_lays (blk off size : Nat) (w : World) : CmpLays Tryd.prog 22 #[] cells4 4 cmpC blk off size w := fun m os dk _ x y => by
  refine (compare_any x y (sortWorldK cells4 4 w blk off m dk os)).mono ?_
  rintro e w' ⟨he, hg⟩
  exact ⟨he, hg.grow⟩
theorem flatK_eq (cs : List Clm) : (flatK cells4 4 cs.toArray).toList = flat cs := by
  apply List.ext_getElem?
  intro t
  by_cases ht : t < cs.length * 4
  · have h1 : t / 4 < cs.length := by omega
    have h2 := flat_at (cs := cs) (j := t / 4) (k := t % 4) h1 (Nat.mod_lt _ (by omega))
    rw [show t / 4 * 4 + t % 4 = t by omega] at h2
    rw [h2]
    have h3 : (flatK cells4 4 cs.toArray)[t]! = (cells4 cs.toArray[t / 4]!)[t % 4]! := get_flatK _ _ _ _ (by simpa using ht)
    have h4 : t < (flatK cells4 4 cs.toArray).size := by simpa using ht
    rw [getElem!_pos _ t h4] at h3
    rw [Array.getElem?_toList, Array.getElem?_eq_getElem h4, h3]
    have h5 : cs.toArray[t / 4]! = cs.getD (t / 4) zc := by
      rw [getElem!_pos _ _ (by simpa using h1), List.getD_eq_getElem?_getD, List.getElem?_eq_getElem h1]
      simp
    rw [h5]
    have h6 : t % 4 < (cells4 (cs.getD (t / 4) zc)).length := Nat.mod_lt _ (by decide)
    rw [getElem!_pos (cells4 (cs.getD (t / 4) zc)) (t % 4) h6, List.getElem?_eq_getElem h6]
  · rw [List.getElem?_eq_none (by simp; omega), List.getElem?_eq_none (by rw [flat_length]; omega)]
section
variable {w : World} {g : Nat} {t : TypeId} {cur : Array Value}
theorem box_put (h : Box w g t cur) (m : Nat) (F : Array Value) (os : Array Obj) : Box (Sort.grow (Sort.putRow id (Sort.ahead w m) g 0 F) os) g t (putCells id 0 F cur) := by
  have hlt := h.lt
  unfold Box at *
  unfold Sort.grow Sort.putRow Sort.mapBlock Sort.ahead
  simp only
  rw [Array.getElem?_append_left (by simpa using hlt), Array.getElem?_modify, if_pos rfl, h]
  rfl
theorem keeps_put (w : World) (g m : Nat) (F : Array Value) (os : Array Obj) : Keeps (fun i => i = g) w (Sort.grow (Sort.putRow id (Sort.ahead w m) g 0 F) os) := by
  refine ⟨rfl, rfl, rfl, ?_, fun k hk hn => ?_⟩
  · unfold Sort.grow Sort.putRow Sort.mapBlock Sort.ahead; simp
  · unfold Sort.grow Sort.putRow Sort.mapBlock Sort.ahead
    simp only
    rw [Array.getElem?_append_left (by simpa using hk), Array.getElem?_modify, if_neg (fun e => hn e.symm)]
theorem put_take {cs : List Clm} (hc : cs.length * 4 ≤ cur.size) : (putCells id 0 (flatK cells4 4 cs.toArray) cur).size = cur.size ∧ (putCells id 0 (flatK cells4 4 cs.toArray) cur).toList.take (cs.length * 4) = flat cs := by
  refine ⟨by simp [putCells], ?_⟩
  apply List.ext_getElem?
  intro k
  rw [List.getElem?_take]
  split
  · rename_i hk
    rw [Array.getElem?_toList]
    unfold putCells
    rw [Array.getElem?_mapIdx, Array.getElem?_eq_getElem (by omega)]
    simp only [Option.map_some]
    rw [if_pos ⟨by omega, by simpa using hk⟩]
    have h4 : k < (flatK cells4 4 cs.toArray).size := by simpa using hk
    rw [← flatK_eq, Array.getElem?_toList, Array.getElem?_eq_getElem h4]
    simp only [Nat.sub_zero, id]
    rw [getElem!_pos _ k h4]
  · rename_i hk
    rw [List.getElem?_eq_none (by rw [flat_length]; omega)]
end
theorem MineC.empty (w : World) : MineC (w.alloc (.cells #[] 52)) w.heap.size (.slice (some ⟨w.heap.size, 0, none⟩) 0 0) [] :=
  ⟨rfl, .inr ⟨w.heap.size, 0, #[], rfl, Nat.le_refl _, Box.new w _ _, Nat.le_refl _, by unfold maxLen; omega, rfl, rfl⟩⟩
set_option maxHeartbeats 800000 in
set_option maxRecDepth 100000 in
theorem cclone_any (v : Value) (cs : List Clm) (w : World) (h : RdC w w.heap.size v cs) (hs : cs.length ≤ 1000000) :
    Calls Tryd.prog 20 #[v] w fun e w' => ∃ v', e = .returned v' ∧ MineC w' w.heap.size v' cs ∧ Grew w w' := by
  have hnil := fun (W : World) (a : Option Addr) (n c n' c' : Nat) => Lib.run_eql_slice_nil (P := Tryd.prog) W 29 52 a n c n' c' Tryd.underlying29
  have h1 := h.grew (Nat.le_refl _) ((Grew.refl w).alloc (.cells #[] 52))
  obtain ⟨A, n, c, rfl, hn, hc⟩ := h.form
  have HN := Lib.hid hn
  rcases A with _ | ad
  · obtain rfl : cs = [] := by
      rcases cs with _ | ⟨y, ys⟩
      · rfl
      · obtain ⟨A', c', hv, _, hx⟩ := h
        injection hv with e
        subst e
        obtain ⟨g, o, hh, _⟩ := hx (by simp)
        cases hh
    clear h1 hn
    go_enter Tryd.func20, Tryd.ntmps20
    go_wp2_with fail
    go_ret
    exact ⟨_, rfl, MineC.nil _ _, Grew.refl _⟩
  · clear hn
    go_enter Tryd.func20, Tryd.ntmps20
    go_wp2_with (at_builtin; refine app_anyC rfl (.tmp 5) (.tmp 6) rfl rfl (MineC.empty w) rfl h1 (by simp; omega) (by simp) ?k)
    case k =>
    intro A m cap w1 hm hown hk hr
    go_wp2
    go_ret
    refine ⟨_, rfl, by simpa using hown, ?_⟩
    exact ((Keeps.refl _ w).alloc _).then_ hk (fun i hi e => by
      have : w.heap.size = i := by simpa [Value.ownBlock] using e
      omega)
theorem sortf_any (v : Value) (cs : List Clm) (base : Nat) (w : World) (h : MineC w base v cs) (hl : cs.length ≤ 1000000) :
    Calls Tryd.prog 21 #[v, .func (.func 22) #[] #[]] w fun e w' =>
      e = .returned (.tuple #[]) ∧ ∃ cs' : List Clm, cs'.Perm cs ∧ SortedIn (ltOf cmpC) 0 cs.length cs'.toArray ∧ MineC w' base v cs' ∧ Keeps (fun i => v.ownBlock = some i) w w' := by
  rcases h.form with ⟨rfl, rfl⟩ | ⟨g, cap, cur, rfl, hb, hbox, h1, h2, h3, h4⟩
  · have hc := AnyF.slices_SortFunc_none sortC none 0 (.func (.func 22) #[] #[]) w
    refine Calls.mono (show Calls Tryd.prog 21 _ _ _ from hc) ?_
    rintro e w' ⟨rfl, rfl⟩
    exact ⟨rfl, [], List.Perm.refl _, fun i j _ _ hj => by simp at hj, MineC.nil _ _, Keeps.refl _ _⟩
  · have hH : HoldsK cells4 4 w g 0 cs.toArray := fun j hj => by
      have hj' : j < cs.length * 4 := by simpa using hj
      refine ⟨?_, hbox.frozen _⟩
      rw [Nat.zero_add, hbox.cell, ← Array.getElem?_toList]
      have e1 : cur.toList[j]? = (flat cs)[j]? := by rw [← h4, List.getElem?_take, if_pos hj']
      rw [e1, ← flatK_eq, Array.getElem?_toList, Array.getElem?_eq_getElem hj]
      simp only [id]
      rw [getElem!_pos _ j hj]
    have hc := AnyQ.slices_SortFunc sortC 4 Tryd.isAgg52 Tryd.sizeOf52 cells4 (fun _ => rfl) (fun x v hv => by simp [cells4] at hv; rcases hv with rfl | rfl | rfl | rfl <;> rfl) cmpC swo_cmpC 22 #[] g 0 cap cs.toArray w (enters_of Tryd.func22 (by kernel_rfl) rfl) (cmp_lays g 0 _ w) hH hbox.lt (by simp; omega)
    refine Calls.mono (show Calls Tryd.prog 21 #[.slice (some ⟨g, 0, none⟩) cs.length cap, .func (.func 22) #[] #[]] w _ from hc) ?_
    rintro e w' ⟨rfl, d', n, os, hp, hs, rfl⟩
    obtain ⟨hp1, _, hp3⟩ := hp
    have hd : d'.toList.length = cs.length := by simpa using hp1
    have hpm : d'.toList.Perm cs := by
      have e1 : (d'.extract 0 cs.toArray.size).toList = d'.toList := by
        rw [← hp1]; simp
      have e2 : (cs.toArray.extract 0 cs.toArray.size).toList = cs := by simp
      rw [e1, e2] at hp3
      exact hp3
    have hw : sortWorldK cells4 4 w g 0 n d' os = Sort.grow (Sort.putRow id (Sort.ahead w n) g 0 (flatK cells4 4 d'.toList.toArray)) os := by
      unfold sortWorldK putRowK; simp
    have hput := put_take (cur := cur) (cs := d'.toList) (by rw [hd, h3]; omega)
    refine ⟨rfl, d'.toList, hpm, by simpa using hs, ?_, ?_⟩
    · rw [hw]
      refine ⟨by rw [flat_length], .inr ⟨g, cap, _, by rw [hd], hb, box_put hbox n _ os, by rw [hd]; exact h1, h2, by rw [hput.1]; exact h3, hput.2⟩⟩
    · rw [hw]
      exact (keeps_put w g n _ os).mono (fun i _ e => by subst e; rfl)

set_option maxHeartbeats 800000 in
theorem csort_any (v : Value) (cs : List Clm) (w : World) (h : RdC w w.heap.size v cs) (hl : cs.length ≤ 1000000) :
    Calls Tryd.prog 7 #[v] w fun e w' => ∃ v' cs', e = .returned v' ∧ cs'.Perm cs ∧ MineC w' w.heap.size v' cs' ∧ Grew w w' := by
  have HC := Lib.hid (cclone_any v cs w h hl)
  obtain ⟨A, n, c, rfl, -, -⟩ := h.form
  clear h
  go_enter Tryd.func7, Tryd.ntmps7
  go_wp2_with fail
  refine HC.out.mono ?_
  rintro e w1 ⟨v1, rfl, m1, k1⟩
  have HS := Lib.hid (sortf_any v1 cs w.heap.size w1 m1 hl)
  obtain ⟨A1, n1, c1, rfl, -, -⟩ := m1.slice
  go_wp2_with fail
  refine HS.out.mono ?_
  rintro e w2 ⟨rfl, cs', hp, -, m2, k2⟩
  have hG : Grew w w2 := Keeps.then_ k1 k2 (fun i hi e => by have := (m1.lt i e).1; omega)
  go_wp2_with fail
  go_ret
  exact ⟨_, cs', rfl, hp, m2, hG⟩
end Go.Proofs.YtggnifejlheebaaDoor
