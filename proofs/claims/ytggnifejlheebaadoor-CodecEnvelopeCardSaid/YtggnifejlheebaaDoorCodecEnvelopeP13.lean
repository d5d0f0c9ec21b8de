/- codec.Dict: words and indices. SameTexts; turned; the examples of the chapter. -/
import Derived.Test.YtggnifejlheebaaDoorCodecEnvelopeP12
import Derived.Maps.Own
import Derived.Maps.OwnOps
import Derived.Maps.OwnSet
import Derived.Maps.Views
namespace Go.Proofs.YtggnifejlheebaaDoor
open Go.RowKit Pl Go.Maps

abbrev Str := List UInt8
def vs (s : Str) : Value := .string ⟨s.toArray⟩
theorem slStr : SlT Tryd.prog 45 9 16 (.string ByteArray.empty) := ⟨Tryd.underlying45, by kernel_rfl, rfl, by decide⟩

/- the words of a list, in the order of their first places -/
def addW (ws : List Str) (s : Str) : List Str := if s ∈ ws then ws else ws ++ [s]
def dwords (l : List Str) : List Str := l.foldl addW []
def didx (l : List Str) : List Int := l.map fun s => (((dwords l).idxOf s : Nat) : Int)
theorem dwords_snoc (l : List Str) (s : Str) : dwords (l ++ [s]) = addW (dwords l) s := by simp [dwords, List.foldl_append]
theorem mem_addW (ws : List Str) (s x : Str) : x ∈ addW ws s ↔ x ∈ ws ∨ x = s := by
  unfold addW
  split
  · constructor
    · exact .inl
    · rintro (h | rfl)
      · exact h
      · assumption
  · simp
theorem mem_dwords_aux (l : List Str) (ws : List Str) (x : Str) : x ∈ l.foldl addW ws ↔ x ∈ ws ∨ x ∈ l := by
  induction l generalizing ws with
  | nil => simp
  | cons s l ih => rw [List.foldl_cons, ih, mem_addW, List.mem_cons, or_assoc]
theorem mem_dwords (l : List Str) (x : Str) : x ∈ dwords l ↔ x ∈ l := by unfold dwords; rw [mem_dwords_aux]; simp
theorem idxOf_addW {ws : List Str} {s x : Str} (h : x ∈ ws) : (addW ws s).idxOf x = ws.idxOf x := by
  unfold addW
  split
  · rfl
  · rw [List.idxOf_append, if_pos h]
theorem didx_snoc (l : List Str) (s : Str) : didx (l ++ [s]) = didx l ++ [(((addW (dwords l) s).idxOf s : Nat) : Int)] := by
  unfold didx
  rw [List.map_append, dwords_snoc]
  congr 1
  apply List.map_congr_left
  intro x hx
  rw [idxOf_addW ((mem_dwords l x).2 hx)]
theorem dwords_length_le (l : List Str) : (dwords l).length ≤ l.length := by
  have aux : ∀ (l ws : List Str), (l.foldl addW ws).length ≤ ws.length + l.length := by
    intro l
    induction l with
    | nil => intro ws; simp
    | cons s l ih =>
      intro ws
      rw [List.foldl_cons, List.length_cons]
      have h1 := ih (addW ws s)
      have h2 : (addW ws s).length ≤ ws.length + 1 := by unfold addW; split <;> simp
      omega
  have := aux l []
  simpa [dwords] using this
theorem idxOf_new {ws : List Str} {s : Str} (h : ¬ s ∈ ws) : (addW ws s).idxOf s = ws.length := by
  unfold addW
  rw [if_neg h, List.idxOf_append, if_neg h]; simp

/- the map that Dict keeps -/
def DMap (D : DataW Unit) (ws : List Str) : Prop :=
  IsMap D ∧ ∀ s : Str, Maps.has D (.string s) = decide (s ∈ ws) ∧ (s ∈ ws → ∀ z, D.atKey (.string s) z = .lit (.int .i64 ((ws.idxOf s : Nat) : Int)))
theorem DMap.empty : DMap (.map []) [] := ⟨isMap_empty, fun s => ⟨rfl, fun h => by simp at h⟩⟩
theorem bytes_ne {s x : Str} (h : x ≠ s) : (Lit.string x) ≠ .string s := by
  intro e
  injection e with e
  exact h e
theorem DMap.put {D : DataW Unit} {ws : List Str} (h : DMap D ws) {s : Str} (hs : ¬ s ∈ ws) : DMap (D.put (.string s) (.lit (.int .i64 (ws.length : Nat)))) (ws ++ [s]) := by
  refine ⟨h.1.put _ _, fun x => ?_⟩
  by_cases e : x = s
  · subst e
    refine ⟨?_, fun _ z => ?_⟩
    · rw [has_put_same h.1 (by trivial)]; simp
    · rw [atKey_put_same h.1 (by trivial), List.idxOf_append, if_neg hs]; simp
  · refine ⟨?_, fun hx z => ?_⟩
    · rw [has_put_other (bytes_ne e), (h.2 x).1]; simp [e]
    · have hx' : x ∈ ws := by simpa [e] using hx
      rw [atKey_put_other (bytes_ne e), (h.2 x).2 hx' z, List.idxOf_append, if_pos hx']
theorem strKeyed : Keyed Tryd.prog 9 := string_keyed Tryd.underlying9
theorem zeroInt (w : World) : (zeroValue 3).run Tryd.prog w = .ok (.int .i64 0) w := by kernel_rfl

theorem Rd.str_at {w : World} {B : Nat} {A : Option Addr} {n c j : Nat} {l : List Str} (h : Rd w B (.slice A n c) (l.map vs)) (hj : j < l.length) : ∃ ad, A = some ad ∧ ad.block < B ∧ w.cell? (ad.add j) = some (.string ⟨(l.getD j []).toArray⟩) := by
  obtain ⟨ad, u, rfl, hadb, hu, hcell⟩ := h.at_ (j := j) (by rw [List.length_map]; exact hj)
  refine ⟨ad, rfl, hadb, ?_⟩
  rw [List.getElem?_map, List.getElem?_eq_getElem hj] at hu
  rw [hcell, ← Option.some.inj hu, List.getD_eq_getElem?_getD, List.getElem?_eq_getElem hj]; rfl
/- a map's block is none of cells -/
theorem Mine.ne_map {w : World} {base : Nat} {e : TypeId} {v : Value} {xs : List Value} {k b n : Nat} {P : Program} {t : TypeId} {R : Value → Option (DataW Unit × List MemPlace)} {D : DataW Unit} (h : Mine w base e v xs) (hv : v.ownBlock = some k) (hb : w.ownsMap P t R b n D) : k ≠ b := by
  rcases h.form with ⟨rfl, _⟩ | ⟨g', cap, cur, rfl, _, hbox, _⟩
  · cases hv
  · have : g' = k := by simpa [Value.ownBlock] using hv
    subst this
    rintro rfl
    obtain ⟨es, clock, h2, _⟩ := hb
    unfold Box at hbox
    rw [hbox] at h2
    cases h2
theorem ownsMap_keep {w w' : World} {S : Nat → Prop} {P : Program} {t : TypeId} {R : Value → Option (DataW Unit × List MemPlace)} {b n : Nat} {D : DataW Unit} (h : w.ownsMap P t R b n D) (hk : Keeps S w w') (hs : ¬ S b) : w'.ownsMap P t R b n D := by
  have hlt := h.lt
  obtain ⟨es, clock, h2, r⟩ := h
  exact ⟨es, clock, (hk.block b hlt hs).trans h2, r⟩
theorem Mine.mapped {w w' : World} {base : Nat} {e : TypeId} {v : Value} {xs : List Value} {b n : Nat} {P : Program} {t : TypeId} {R : Value → Option (DataW Unit × List MemPlace)} {D : DataW Unit} (h : Mine w base e v xs) (hb : w.ownsMap P t R b n D) (hg : w.grownBy w' (some b)) : Mine w' base e v xs :=
  h.keep (S := fun i => i = b) ((Keeps.refl _ w).grown hg (fun k e _ => by cases e; rfl)) (fun k hk e => by subst e; exact h.ne_map hk hb rfl)

theorem at_eq {D : DataW Unit} {k : Lit} {z : DataW Unit} {a b : Int} (h : D.atKey k z = .lit (.int .i64 a)) (h' : D.atKey k z = .lit (.int .i64 b)) : a = b := by
  rw [h] at h'
  injection h' with h'
  injection h'
def DictPost (l : List Str) (w : World) (e : Ending) (w' : World) : Prop :=
  ∃ v1 v2, e = .returned (.tuple #[v1, v2]) ∧ Mine w' w.heap.size 9 v1 ((dwords l).map vs) ∧ Mine w' w.heap.size 3 v2 ((didx l).map vi) ∧ Grew w w'

set_option maxHeartbeats 6400000 in
set_option maxRecDepth 100000 in
theorem dict_any (v : Value) (l : List Str) (w : World) (h : Rd w w.heap.size v (l.map vs)) (hl : l.length ≤ 1000000000) (hz : ∀ s ∈ l, s.length ≤ 9223372036854775807) :
    Calls Tryd.prog 30 #[v] w (DictPost l w) := by
  obtain ⟨A, n, c, rfl, hn, hc⟩ := h.form
  rw [List.length_map] at hn
  have hnl : n ≤ 1000000000 := by omega
  have HN := Lib.hid hn
  have HZ := Lib.hid hz
  have H := Lib.hid h
  clear hn hz h
  have hmm := @run_makeMap Tryd.prog
  go_enter Tryd.func30, Tryd.ntmps30
  go_wp2_with fail
  clear hmm
  go_loopw [5, 6, 14] (fun a b i wr => ∃ (j m1 m2 : Nat) (A1 A2 : Option Addr) (c1 c2 : Nat) (D : DataW Unit), j ≤ n ∧ i = .int .i64 j ∧ a = .slice A1 m1 c1 ∧ b = .slice A2 m2 c2 ∧
      Mine wr w.heap.size 9 (.slice A1 m1 c1) ((dwords (l.take j)).map vs) ∧ Mine wr w.heap.size 3 (.slice A2 m2 c2) ((didx (l.take j)).map vi) ∧
      wr.ownsMap Tryd.prog 9 (plainElem Tryd.prog 3) w.heap.size j D ∧ DMap D (dwords (l.take j)) ∧ Grew w wr) (fun _ _ i _ => n - (intOf i).toNat)
  case atStart => exact ⟨0, 0, 0, none, none, 0, 0, .map [], by omega, rfl, rfl, rfl, by simpa [dwords] using Mine.nil _ w.heap.size 9, by simpa [didx] using Mine.nil _ w.heap.size 3, World.ownsMap_made w _ _ _, by simpa [dwords] using DMap.empty, (Grew.refl w).alloc _⟩
  case round =>
    obtain ⟨j, m1, m2, A1, A2, c1, c2, D, hj, rfl, rfl, rfl, hM1, hM2, hmap, hD, hG⟩ := hrel
    have hsz := hG.size
    have HD := Lib.hid hD
    clear hD
    by_cases hlt : j < n
    · have hjl : j < l.length := by rw [← HN.out]; exact hlt
      obtain ⟨ad, rfl, hadb, hcell⟩ := (H.out.grew (Nat.le_refl _) hG).str_at hjl
      have htk : l.take (j + 1) = l.take j ++ [l.getD j []] := by
        rw [List.take_add_one, List.getElem?_eq_getElem hjl, List.getD_eq_getElem?_getD, List.getElem?_eq_getElem hjl]; rfl
      have hw1 : dwords (l.take (j + 1)) = addW (dwords (l.take j)) (l.getD j []) := by rw [htk, dwords_snoc]
      have hx1 : didx (l.take (j + 1)) = didx (l.take j) ++ [(((addW (dwords (l.take j)) (l.getD j [])).idxOf (l.getD j []) : Nat) : Int)] := by rw [htk, didx_snoc]
      have HW1 := Lib.hid hw1
      have HX1 := Lib.hid hx1
      have hsl : (l.getD j []).length ≤ 9223372036854775807 := by
        rw [List.getD_eq_getElem?_getD, List.getElem?_eq_getElem hjl]; exact HZ.out _ (List.getElem_mem hjl)
      have hwl : (dwords (l.take j)).length ≤ j := by
        have h1 := dwords_length_le (l.take j)
        rw [List.length_take] at h1; omega
      have hxl : (didx (l.take j)).length = j := by unfold didx; rw [List.length_map, List.length_take]; omega
      have hxl2 : ((didx (l.take j)).map vi).length < 1099511627776 := by rw [List.length_map, hxl]; omega
      have hwl2 : ((dwords (l.take j)).map vs).length < 1099511627776 := by rw [List.length_map]; omega
      clear htk hw1 hx1 hxl
      generalize dwords (l.take j) = ws at *
      generalize l.getD j [] = s at *
      have hkey : keyOf Tryd.prog 9 (.string ⟨s.toArray⟩) = some (.string s) := by
        have := WideMaps.keyOf_string_mk (P := Tryd.prog) (k := 9) Tryd.underlying9 (s := ⟨s.toArray⟩) (by unfold maxLen; show s.toArray.size ≤ _; simp; omega)
        simpa using this
      have HK := Lib.hid hkey
      have hmml : m1 = ws.length := by have := hM1.len; simpa using this
      have HML := Lib.hid hmml
      have hm1l : m1 ≤ 1000000000 := by omega
      have hhas := (HD.out.2 s).1
      clear hkey hmml
      by_cases hin : s ∈ ws
      · have hat := (HD.out.2 s).2 hin (.lit (.int .i64 0))
        have hadd : addW ws s = ws := by unfold addW; rw [if_pos hin]
        have hh : Maps.has D (.string s) = true := by rw [hhas]; simp [hin]
        have HAT := Lib.hid hat
        have HADD := Lib.hid hadd
        have HIN := Lib.hid hin
        clear hat hadd hhas hin
        go_wp2_with (first
          | (at_lookup; refine wpList_lookup_own_ok_int _ rfl _ _ 106 rfl 9 3 .i64 strKeyed Tryd.underlying106 Tryd.underlying3 (zeroInt _) w.heap.size j D rfl hmap _ _ rfl HK.out ?_; intro q hq hwq; obtain rfl := at_eq HAT.out hq; clear hq hwq)
          | (at_builtin; refine app_one slInt rfl (.tmp 35) (.tmp 37) rfl rfl (hM2.alloc _) wr.heap.size 1 (.int .i64 ((ws.idxOf s : Nat) : Int)) rfl (Nat.le_refl _) (by simp) (by simp) rfl hxl2 (by simp; omega) ?k))
        case k =>
        intro r cap w5 hM5 hk5 hr5 hbr5 hlr5
        have hG5 : Grew w w5 := (hG.alloc _).app (hM2.alloc _) hk5
        have hM15 := (hM1.alloc _).aside (hM2.alloc _) (by decide) hk5
        have hmap5 := ownsMap_keep (hmap.alloc _) hk5 (fun e => hM2.ne_map e hmap rfl)
        have HM5 := Lib.hid hM5
        clear hM5 hk5 hmap
        go_wp2_with fail
        go_roundw
        case rel =>
          refine ⟨j + 1, _, _, _, _, _, _, D, by omega, by go_num, rfl, rfl, ?_, ?_, hmap5.mono (by omega), ?_, hG5⟩
          · rw [HW1.out, HADD.out]; exact hM15
          · rw [HX1.out, HADD.out, List.map_append]; exact HM5.out
          · rw [HW1.out, HADD.out]; exact HD.out
        case measure => simp [intOf]; omega
      · have hadd : addW ws s = ws ++ [s] := by unfold addW; rw [if_neg hin]
        have hidx := idxOf_new hin
        have hh : Maps.has D (.string s) = false := by rw [hhas]; simp [hin]
        have hput := HD.out.put hin
        have HADD := Lib.hid hadd
        have HIDX := Lib.hid hidx
        have HPUT := Lib.hid hput
        have HIN := Lib.hid hin
        clear hadd hhas hin hidx hput
        go_wp2_with (first
          | (at_lookup; refine wpList_lookup_own_ok_int _ rfl _ _ 106 rfl 9 3 .i64 strKeyed Tryd.underlying106 Tryd.underlying3 (zeroInt _) w.heap.size j D rfl hmap _ _ rfl HK.out ?_; intro q hq hwq; clear hq hwq)
          | (at_mapUpdate; refine wpList_mapUpdate_own _ rfl _ _ _ 106 rfl 9 3 strKeyed Tryd.underlying106 _ w.heap.size j D rfl hmap (by unfold maxLen; omega) _ _ _ rfl rfl HK.out _ [] (plainElem_int Tryd.underlying3 (WalkArith.wf_i64 (by omega))) ?_; intro w1 hown1 hgrow1; have hM11 := hM1.mapped hmap hgrow1; have hM21 := hM2.mapped hmap hgrow1; have hG1 : Grew w w1 := Keeps.grown hG hgrow1 (fun k e h => by cases e; omega); have hsz1 := hG1.size)
          | (at_builtin; refine app_one slStr rfl (.tmp 31) (.tmp 33) rfl rfl (hM11.alloc _) w1.heap.size 1 (.string ⟨s.toArray⟩) rfl (Nat.le_refl _) (by simp) (by simp) rfl hwl2 (by simp; omega) ?_; intro r5 cap5 w5 hM5 hk5 hr5 hbr5 hlr5; have hG5 := (hG1.alloc (.cells #[.string ⟨s.toArray⟩] 9)).app (hM11.alloc _) hk5; have hM25 := (hM21.alloc (.cells #[.string ⟨s.toArray⟩] 9)).aside (hM11.alloc _) (by decide) hk5; have hmap5 := ownsMap_keep (hown1.alloc (.cells #[.string ⟨s.toArray⟩] 9)) hk5 (fun e => hM11.ne_map e hown1 rfl); have hsz5 := hG5.size)
          | (at_builtin; refine app_one slInt rfl (.tmp 35) (.tmp 37) rfl rfl (hM25.alloc _) w5.heap.size 1 (.int .i64 (m1 : Nat)) rfl (Nat.le_refl _) (by simp) (by simp) rfl hxl2 (by simp; omega) ?_; intro r6 cap6 w6 hM6 hk6 hr6 hbr6 hlr6))
        have hG6 : Grew w w6 := (hG5.alloc _).app (hM25.alloc _) hk6
        have hM56 := (hM5.alloc _).aside (hM25.alloc _) (by decide) hk6
        have hmap6 := ownsMap_keep (hmap5.alloc _) hk6 (fun e => hM25.ne_map e hmap5 rfl)
        go_roundw
        case rel =>
          refine ⟨j + 1, _, _, _, _, _, _, _, by omega, by go_num, rfl, rfl, ?_, ?_, hmap6, ?_, hG6⟩
          · rw [HW1.out, HADD.out, List.map_append]; rw [List.length_map] at hM56; exact hM56
          · rw [HX1.out, HIDX.out, ← HML.out, List.map_append]; rw [List.length_map] at hM6; exact hM6
          · rw [HW1.out, HADD.out, HML.out]; exact HPUT.out
        case measure => simp [intOf]; omega
    · go_wp2_with fail
      go_ret2
      rw [List.take_of_length_le (by rw [← HN.out]; omega)] at hM1 hM2
      exact ⟨_, _, rfl, hM1, hM2, hG⟩
end Go.Proofs.YtggnifejlheebaaDoor
namespace Go.Proofs.YtggnifejlheebaaDoor
open Go.RowKit Pl

set_option maxHeartbeats 1600000 in
theorem sameTexts_any (v u : Value) (xs ys : List Str) (w : World) (h : Rd w w.heap.size v (xs.map vs)) (k : Rd w w.heap.size u (ys.map vs)) (hl : xs.length ≤ 1099511627776) (hl' : ys.length ≤ 1099511627776) :
    Calls Tryd.prog 35 #[v, u] w fun e w' => e = .returned (.bool (decide (xs = ys))) ∧ ∃ n, w' = w.drewN n := by
  obtain ⟨A, n, c, rfl, hn, hc⟩ := h.form
  obtain ⟨B, n', d, rfl, hn', hd⟩ := k.form
  rw [List.length_map] at hn hn'
  have hnl : n ≤ 1099511627776 := by omega
  have hnl' : n' ≤ 1099511627776 := by omega
  have HN := Lib.hid hn
  have HN' := Lib.hid hn'
  by_cases hne : n ≠ n'
  · have t0 : ((n : Int) != (n' : Int)) = true := by rw [bne_iff_ne]; omega
    have hD : decide (xs = ys) = false := by
      rw [decide_eq_false_iff_not]
      rintro rfl
      omega
    have HD := Lib.hid hD
    clear hn hn' hne hD
    go_enter Tryd.func35, Tryd.ntmps35
    go_wp2_with fail
    go_ret
    exact ⟨by rw [HD.out]; rfl, 0, rfl⟩
  obtain rfl : n = n' := by omega
  clear hn hn' hne
  have t0 : ((n : Int) != (n : Int)) = false := by simp
  go_enter Tryd.func35, Tryd.ntmps35
  go_wp2_with fail
  go_loopw [5] (fun i wr => ∃ (j m : Nat), j ≤ n ∧ i = .int .i64 j ∧ wr = w.drewN m ∧ xs.take j = ys.take j) (fun i _ => n - (intOf i).toNat)
  case atStart => exact ⟨0, 0, by omega, rfl, rfl, by simp⟩
  case round =>
    obtain ⟨j, m, hj, rfl, rfl, htake⟩ := hrel
    have HTK := Lib.hid htake
    clear htake
    by_cases hlt : j < n
    · have hjx : j < xs.length := by rw [← HN.out]; exact hlt
      have hjy : j < ys.length := by rw [← HN'.out]; exact hlt
      obtain ⟨ad, u1, rfl, hadb, hu, hcell⟩ := h.at_ (j := j) (by rw [List.length_map]; exact hjx)
      obtain ⟨ad2, u2, rfl, hadb2, hu2, hcell2⟩ := k.at_ (j := j) (by rw [List.length_map]; exact hjy)
      obtain rfl : vs xs[j] = u1 := by
        rw [List.getElem?_map, List.getElem?_eq_getElem hjx] at hu
        injection hu
      obtain rfl : vs ys[j] = u2 := by
        rw [List.getElem?_map, List.getElem?_eq_getElem hjy] at hu2
        injection hu2
      unfold vs at hcell hcell2
      clear hu hu2
      by_cases hxy : xs[j] = ys[j]
      · have hstep : xs.take (j + 1) = ys.take (j + 1) := take_eq_step HTK.out (by rw [List.getElem?_eq_getElem hjx, List.getElem?_eq_getElem hjy, hxy])
        have HS := Lib.hid hstep
        rw [← hxy] at hcell2
        clear hstep hxy
        generalize xs[j] = x at *
        clear hjx hjy
        go_wp2_with fail
        go_quiet (fail)
        go_wp2_with fail
        go_roundw
        case rel => exact ⟨j + 1, _, by omega, by go_num, rfl, HS.out⟩
        case measure => simp [intOf]; omega
      · have hD : decide (xs = ys) = false := by
          rw [decide_eq_false_iff_not]
          rintro rfl
          exact hxy rfl
        have HD := Lib.hid hD
        clear hD
        generalize xs[j] = x at *
        generalize ys[j] = y at *
        have tx : (x == y) = false := by rw [beq_eq_false_iff_ne]; exact hxy
        clear hxy hjx hjy
        go_wp2_with fail
        go_quiet (fail)
        go_wp2_with fail
        go_ret
        exact ⟨by rw [HD.out]; rfl, _, World.drewN_drewN _ _ _⟩
    · have hD : decide (xs = ys) = true := by
        rw [decide_eq_true_eq]
        refine eq_of_take (n := j) ?_ ?_ HTK.out
        · rw [← HN.out]; omega
        · rw [← HN'.out]; omega
      have HD := Lib.hid hD
      clear hD
      go_wp2_with fail
      go_ret
      exact ⟨by rw [HD.out]; rfl, _, rfl⟩

/- bytes with one of them replaced -/
def turn (bs : List Nat) (a : Int) (c : Nat) : List Nat := if bs = [] then [] else bs.set (arnd a bs.length) c
theorem turn_bytes {bs : List Nat} (h : Bytes bs) (a : Int) {c : Nat} (hc : c < 256) : Bytes (turn bs a c) := by
  unfold turn
  split
  · intro x hx; simp at hx
  · intro x hx
    rcases List.mem_or_eq_of_mem_set hx with hx | rfl
    · exact h x hx
    · exact hc
theorem turn_length (bs : List Nat) (a : Int) (c : Nat) : (turn bs a c).length = bs.length := by
  unfold turn
  split
  · rename_i h; simp [h]
  · simp
end Go.Proofs.YtggnifejlheebaaDoor
