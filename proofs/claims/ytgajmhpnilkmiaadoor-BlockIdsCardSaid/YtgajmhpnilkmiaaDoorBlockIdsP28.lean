/- block.Ids: the first error, or the different numbers in increasing order. Slice expressions s[:k], s[k:] of a slice of one-cell elements, as steps: the new slice reads as the part. The reference's Ids: the different numbers in increasing order. -/
import Derived.Test.YtgajmhpnilkmiaaDoorBlockIdsP27
import Derived.Test.YtgajmhpnilkmiaaDoorBlockIdsP10
import Derived.Test.YtgajmhpnilkmiaaDoorBlockIdsP21
import Derived.Test.YtgajmhpnilkmiaaDoorBlockIdsP11
import Derived.Test.YtgajmhpnilkmiaaDoorBlockIdsP01
import Derived.Deep.Slices
import Derived.Test.YtgajmhpnilkmiaaDoorBlockIdsP06
namespace Go.Proofs.YtgajmhpnilkmiaaDoor
open Go.RowKit Pl Go.Maps Go.Sort Go.Shelf

theorem sorts_int (m : Nat) : AnyZI.SortsIn Tryd.prog sortedA_ren Fence.wide m :=
  ⟨fun blk off cap ss W hH hblk hsz => callsIn_wide.2 (AnyM.slices_Sort_int sortA blk off cap ss W hH hblk hsz),
   fun p cap W => callsIn_wide.2 (AnyM.slices_Sort_int_none sortA p cap W)⟩
theorem mkeys_any (mb : Option Nat) (w : World) : Calls Tryd.prog 55 #[.map mb] w fun e w' => e = .returned (.func (.func 86) #[] #[.pointer (some ⟨w.heap.size, 0, none⟩)]) ∧ w' = w.alloc (.cells #[.map mb] 104) :=
  callsIn_wide.1 (AnyZI.keys_in keysA Fence.wide 5 trivial rfl mb w)
theorem intKeyed : Keyed Tryd.prog 3 := int_keyed Tryd.underlying3

set_option maxHeartbeats 1000000 in
theorem msorted_any (l : List Int) (D : DataW Unit) (b nn : Nat) (w : World) (hown : w.ownsMap Tryd.prog 3 (plainElem Tryd.prog 4) b nn D) (hI : IMap D l) (hn : nn ≤ 1000) :
    Calls Tryd.prog 54 #[.func (.func 86) #[] #[.pointer (some ⟨w.heap.size, 0, none⟩)]] (w.alloc (.cells #[.map (some b)] 104)) fun e w' => ∃ v, e = .returned v ∧ Mine w' w.heap.size 3 v ((idsR l).map vi) ∧ Grew w w' := by
  have hbl := hown.lt
  have hsl := hown.size_le
  have htd := hown.tidy intKeyed
  have hseq : SeqGives Fence.wide 2 Tryd.prog 86 #[.pointer (some ⟨w.heap.size, 0, none⟩)] encZ (fun ss => ss.Perm (intKeys D)) (Maps.size D) (w.alloc (.cells #[.map (some b)] 104)) :=
    AnyZI.keys_gives (ρ := keysA_ren) { keysA with } Fence.wide _ trivial rfl (by omega) w.heap.size b nn D _ (by simp) (by simp) (by
      obtain ⟨es, clock, hb, Ft, hs, hD⟩ := hown
      exact ⟨es, clock, (Below.heap_alloc _ _ b hbl).trans hb, Ft, hs, hD⟩)
  have cS := AnyZI.sorted_in sortedA Fence.wide 5 trivial trivial trivial trivial rfl (by omega) (sorts_int _) (enters_of Tryd.func85 (by kernel_rfl) rfl) 86 #[.pointer (some ⟨w.heap.size, 0, none⟩)] trivial (enters_of Tryd.func86 (by kernel_rfl) rfl) _ _ (by unfold maxLen; omega) (by omega) _ hseq
  change CallsIn _ _ Tryd.prog 54 _ _ _ at cS
  refine (callsIn_wide.1 cS).mono ?_
  rintro e w' ⟨v, ss, rfl, hS, hrow, hnil, hb⟩
  refine ⟨v, rfl, ?_, ((Grew.refl w).alloc _).trans (Grew.of_below hb)⟩
  have h1 : ss.mergeSort (fun x y => decide (x ≤ y)) = idsR l := hI.sorted htd hS
  have h2 : ss.length = ((idsR l).map vi).length := by rw [List.length_map, ← h1, List.length_mergeSort]
  rw [h1, h2] at hrow
  exact Mine.base_le (base := (w.alloc (.cells #[.map (some b)] 104)).heap.size) hrow (by simp)

/- a slice of slices of bytes -/
def RdBs (w : World) (B : Nat) (v : Value) (bss : List (List Nat)) : Prop :=
  ∃ us, Rd w B v us ∧ us.length = bss.length ∧ ∀ (j : Nat) (u : Value) (bs : List Nat), us[j]? = some u → bss[j]? = some bs → Rd w B u (bs.map vb)
def IdsPost (bss : List (List Nat)) (w : World) (e : Ending) (w' : World) : Prop :=
  ∃ A n c, e = .returned (.tuple #[.slice A n c, .int .i64 (firstE bss)]) ∧ Mine w' w.heap.size 3 (.slice A n c) ((idsOut bss).map vi) ∧ Grew w w'
theorem firstE_drop {bss : List (List Nat)} {j : Nat} (h : j < bss.length) : firstE (bss.drop j) = if oE (decB bss[j]) = 0 then firstE (bss.drop (j + 1)) else oE (decB bss[j]) := by
  rw [List.drop_eq_getElem_cons h]; rfl
theorem sers_snoc {bss : List (List Nat)} {j : Nat} (h : j < bss.length) : sers (bss.take (j + 1)) = sers (bss.take j) ++ [(oX (decB bss[j])).1] := by
  unfold sers; rw [List.take_add_one, List.getElem?_eq_getElem h, List.map_append]; rfl

set_option maxHeartbeats 6400000 in
set_option maxRecDepth 100000 in
theorem ids_any (v : Value) (bss : List (List Nat)) (w : World) (h : RdBs w w.heap.size v bss) (hb : ∀ bs ∈ bss, Bytes bs ∧ bs.length ≤ 100000) (hl : bss.length ≤ 900) (ht : Tab w w.heap.size) (hp : PTab w w.heap.size) :
    Calls Tryd.prog 24 #[v] w (IdsPost bss w) := by
  obtain ⟨us, hr, hul, hus⟩ := h
  obtain ⟨A, n, c, rfl, hn, hc⟩ := hr.form
  have hnl : n ≤ 900 := by omega
  have HN := Lib.hid hn
  have HUL := Lib.hid hul
  have HUS := Lib.hid hus
  have HR := Lib.hid hr
  have HB := Lib.hid hb
  have HT := Lib.hid ht
  have HP := Lib.hid hp
  clear hn hul hus hr hb ht hp hl
  have hmm := @run_makeMap Tryd.prog
  go_enter Tryd.func24, Tryd.ntmps24
  go_wp2_with fail
  clear hmm
  go_loopw [12] (fun i wr => ∃ (j : Nat) (D : DataW Unit), j ≤ n ∧ i = .int .i64 j ∧ wr.ownsMap Tryd.prog 3 (plainElem Tryd.prog 4) w.heap.size j D ∧ IMap D (sers (bss.take j)) ∧ firstE bss = firstE (bss.drop j) ∧ Grew w wr) (fun i _ => n - (RowKit.intOf i).toNat)
  case atStart => exact ⟨0, .map [], by omega, rfl, World.ownsMap_made w _ _ _, by simpa [sers] using IMap.empty, by simp, (Grew.refl w).alloc _⟩
  case round =>
    obtain ⟨j, D, hj, rfl, hmap, hD, hfe, hG⟩ := hrel
    have HD := Lib.hid hD
    have HFE := Lib.hid hfe
    have hsz := hG.size
    clear hD hfe
    by_cases hlt : j < n
    · have hju : j < us.length := by rw [← HN.out]; exact hlt
      have hjb : j < bss.length := by rw [← HUL.out]; exact hju
      obtain ⟨ad, u, rfl, hadb, hu, hcell⟩ := (HR.out.grew (Nat.le_refl _) hG).at_ (j := j) hju
      have hub : Rd w w.heap.size u (bss[j].map vb) := HUS.out j u _ hu (List.getElem?_eq_getElem hjb)
      obtain ⟨Au, nu, cu, rfl, -, -⟩ := hub.form
      have hbb := HB.out _ (List.getElem_mem hjb)
      have HDc := Lib.hid (bdecode_any _ bss[j] wr ((hub.grew (Nat.le_refl _) hG).more hsz) hbb.1 hbb.2 (HT.out.on hG) (HP.out.on hG))
      have HF1 := Lib.hid (firstE_drop hjb)
      have HS1 := Lib.hid (sers_snoc hjb)
      have hxi := oX_i64 bss[j]
      clear hju hadb hu hub hbb
      generalize decB bss[j] = o at *
      clear hjb
      go_wp2_with fail
      refine HDc.out.mono ?_
      rintro e wa hpost
      obtain ⟨Aa, na, ca, rfl, hMa, hGa⟩ := hpost.all
      have hGw := hG.trans hGa
      have hmapa := ownsMap_keep hmap hGa (fun e => e)
      have hsa := hGa.size
      have hlt2 := hmap.lt
      clear hpost hMa HDc hmap hcell hGa hG
      generalize oX o = X at *
      generalize oE o = er at *
      unfold vbl
      have hmapz := hmapa.alloc (.cells (cells5 zc (.slice none 0 0)).toArray 59)
      have hGz := hGw.alloc (.cells (cells5 zc (.slice none 0 0)).toArray 59)
      by_cases her : er = 0
      · subst her
        have HF2 := Lib.hid (HFE.out.trans (HF1.out.trans (if_pos rfl)))
        have hwf : (Lit.int .i64 X.1).wf = true := WalkArith.wf_i64 hxi
        clear HF1 HFE
        go_wp2_with (first
          | (refine st5 59 infoB (.tmp 7) (.tmp 19) wa.heap.size X zc (.slice Aa na ca) (.slice none 0 0) 59 rfl rfl rfl rfl rfl (Box.new wa 59 (cells5 zc (.slice none 0 0)).toArray) ?_; intro wb bxb kb; have hmapb := ownsMap_keep hmapz kb (by omega); have hGb : Grew w wb := (Keeps.then_ hGz kb (fun i hi e => by omega)); obtain ⟨b0, b1, b2, b3, b4⟩ := bxb.five; have hsb := hGb.size; clear kb)
          | (at_mapUpdate; refine wpList_mapUpdate_own _ rfl _ _ _ 104 rfl 3 4 intKeyed Tryd.underlying104 _ w.heap.size j D rfl hmapb (by unfold maxLen; omega) _ _ _ rfl rfl (keyOf_int_mk Tryd.underlying3 hwf) _ [] (plainElem_bool Tryd.underlying4 true) ?_; intro w1 hown1 hgrow1; have hG1 : Grew w w1 := Keeps.grown hGb hgrow1 (fun k e h => by cases e; omega)))
        go_roundw
        case rel => exact ⟨j + 1, _, by omega, by go_num, hown1, by rw [HS1.out]; exact HD.out.put _ _, HF2.out, hG1⟩
        case measure => simp [RowKit.intOf]; omega
      · have HF2 := Lib.hid (HFE.out.trans (HF1.out.trans (if_neg her)))
        have te : (er != 0) = true := by rw [bne_iff_ne]; exact her
        go_wp2_with (first
          | (refine st5 59 infoB (.tmp 7) (.tmp 19) wa.heap.size X zc (.slice Aa na ca) (.slice none 0 0) 59 rfl rfl rfl rfl rfl (Box.new wa 59 (cells5 zc (.slice none 0 0)).toArray) ?_; intro wb bxb kb; have hGb : Grew w wb := (Keeps.then_ hGz kb (fun i hi e => by omega)); clear kb))
        go_ret2
        exact ⟨none, 0, 0, by rw [HF2.out]; rfl, by rw [idsOut_err (by rw [HF2.out]; exact her)]; exact Mine.nil _ _ _, hGb⟩
    · have hjn : bss.length ≤ j := by rw [← HUL.out, ← HN.out]; omega
      have hf0 : firstE bss = 0 := by rw [HFE.out, List.drop_eq_nil_of_le hjn]; rfl
      have HO := Lib.hid (idsOut_ok hf0)
      have hD := HD.out
      rw [List.take_of_length_le hjn] at hD
      have HSo := Lib.hid (msorted_any (sers bss) D w.heap.size j wr hmap hD (by omega))
      have HF0 := Lib.hid hf0
      clear hf0 hD hjn
      go_wp2_with fail
      refine (mkeys_any _ _).mono ?_
      rintro e w' ⟨rfl, rfl⟩
      go_wp2_with fail
      refine HSo.out.mono ?_
      rintro e w' ⟨v', rfl, hM, hGs⟩
      obtain ⟨A', n', c', rfl, -, -⟩ := hM.rd.form
      go_wp2_with fail
      go_ret2
      exact ⟨A', n', c', by rw [HF0.out]; rfl, by rw [HO.out]; exact hM.base_le hsz, hG.trans hGs⟩
end Go.Proofs.YtgajmhpnilkmiaaDoor
namespace Go.Proofs.YtgajmhpnilkmiaaDoor
open Go.RowKit

section
variable {P : Program} {t e : TypeId} {bytes : Nat} {z : Value} {w : World}
theorem run_from (T : SlT P t e bytes z) {A : Option Addr} {n c k : Nat} (hk : k ≤ n) :
    (Instr.sliceAt t (.slice A n c) (some (.int .i64 (k : Nat))) none none).run P w = .ok (.slice (if c = k then A else A.map (·.add k)) (n - k) (c - k)) w := by
  obtain ⟨i, hi, hz, hs, hby⟩ := info_parts T.info
  simp [Instr.sliceAt, Instr.slice, run_underlying T.under, Instr.sliceBounds, Instr.sliceBound, asIntOf, sizeOf, typeInfo, hi, hs]
  omega
theorem run_to (T : SlT P t e bytes z) {A : Option Addr} {n c k : Nat} (hk : k ≤ n) (hc : n ≤ c) :
    (Instr.sliceAt t (.slice A n c) none (some (.int .i64 (k : Nat))) none).run P w = .ok (.slice (if c = 0 then A else A.map (·.add 0)) k c) w := by
  obtain ⟨i, hi, hz, hs, hby⟩ := info_parts T.info
  simp [Instr.sliceAt, Instr.slice, run_underlying T.under, Instr.sliceBounds, Instr.sliceBound, asIntOf, sizeOf, typeInfo, hi]
  omega
variable {B : Nat} {xs : List Value} {ops : Array Oper} {rest : List Oper} {o : Oper} {a : Act} {Q : Exit → Act → World → Prop}
theorem Rd.cut {A : Option Addr} {n c : Nat} (h : Rd w B (.slice A n c) xs) {k : Nat} (hk : k ≤ n) : Rd w B (.slice (if c = k then A else A.map (·.add k)) (n - k) (c - k)) (xs.drop k) := by
  obtain ⟨A0, c', hv, hc, hx⟩ := h
  injection hv with e1 e2 e3
  subst e1 e2 e3
  refine ⟨_, c - k, by rw [List.length_drop], by rw [List.length_drop]; omega, fun h0 => ?_⟩
  rw [List.length_drop] at h0
  obtain ⟨ad', rfl, hb, hcell⟩ := hx (by omega)
  rw [if_neg (by omega)]
  refine ⟨_, rfl, by rw [block_add]; exact hb, fun j u hu => ?_⟩
  rw [Go.Deep.add_add]
  exact hcell (k + j) u (by rw [List.getElem?_drop] at hu; exact hu)
theorem add_zero_ (ad : Addr) : ad.add 0 = ad := by
  cases ad
  unfold Addr.add
  split <;> simp_all
theorem Rd.upto {A : Option Addr} {n c : Nat} (h : Rd w B (.slice A n c) xs) {k : Nat} (hk : k ≤ n) : Rd w B (.slice (if c = 0 then A else A.map (·.add 0)) k c) (xs.take k) := by
  have hA : (if c = 0 then A else A.map (·.add 0)) = A := by
    split
    · rfl
    · cases A with
      | none => rfl
      | some ad => simp [add_zero_]
  rw [hA]
  obtain ⟨A', c', hv, hc, hx⟩ := h
  injection hv with e1 e2 e3
  subst e1 e2 e3
  have hl : (xs.take k).length = k := by rw [List.length_take]; omega
  refine ⟨A, c, by rw [hl], by omega, fun h0 => ?_⟩
  obtain ⟨ad, e, hb, hcell⟩ := hx (by omega)
  refine ⟨ad, e, hb, fun j u hu => hcell j u ?_⟩
  rw [List.getElem?_take] at hu
  split at hu
  · exact hu
  · cases hu
/- s[k:] -/
theorem sl_from (T : SlT P t e bytes z) (hgd : o.guard = none) (x y : Operand) (ho : o.op = .slice t x (some y) none none) {A : Option Addr} {n c : Nat} (hx : a.eval x = .slice A n c) {k : Nat} (hy : a.eval y = .int .i64 (k : Nat)) (hk : k ≤ n)
    (hr : Rd w B (.slice A n c) xs)
    (h : ∀ A' m c', m = n - k → Rd w B (.slice A' m c') (xs.drop k) → wpList P ops Q rest (a.put o.dst (.slice A' m c')) w) : wpList P ops Q (o :: rest) a w := by
  refine wpList_plain hgd fun K hK => ?_
  unfold Oper.wp execOp
  simp only [ho, hx, hy, Option.map_some, Option.map_none]
  have := run_from (w := w) T (A := A) (c := c) hk
  simp only [this, Sem.run_bind, Sem.run_pure, Result.andThen_ok]
  exact hK _ _ (h _ _ _ rfl (hr.cut hk))
/- s[:k] -/
theorem sl_to (T : SlT P t e bytes z) (hgd : o.guard = none) (x y : Operand) (ho : o.op = .slice t x none (some y) none) {A : Option Addr} {n c : Nat} (hx : a.eval x = .slice A n c) {k : Nat} (hy : a.eval y = .int .i64 (k : Nat)) (hk : k ≤ n)
    (hr : Rd w B (.slice A n c) xs)
    (h : ∀ A' c', Rd w B (.slice A' k c') (xs.take k) → wpList P ops Q rest (a.put o.dst (.slice A' k c')) w) : wpList P ops Q (o :: rest) a w := by
  refine wpList_plain hgd fun K hK => ?_
  unfold Oper.wp execOp
  simp only [ho, hx, hy, Option.map_some, Option.map_none]
  obtain ⟨A', n', c', hv, hc, hx'⟩ := hr.form
  injection hv with e1 e2 e3
  subst e1 e2 e3
  have := run_to (w := w) T (A := A) (c := c) hk (by omega)
  simp only [this, Sem.run_bind, Sem.run_pure, Result.andThen_ok]
  exact hK _ _ (h _ _ (hr.upto hk))
end
end Go.Proofs.YtgajmhpnilkmiaaDoor
namespace Go.Proofs.YtgajmhpnilkmiaaDoor
open Go.RowKit Pl

set_option maxHeartbeats 6400000 in
set_option maxRecDepth 100000 in
theorem rids_any (v : Value) (l : List Int) (w : World) (h : Rd w w.heap.size v (l.map vi)) (hl : l.length ≤ 500) :
    Calls Tryd.prog 26 #[v] w fun e w' => ∃ v', e = .returned v' ∧ Mine w' w.heap.size 3 v' ((idsR l).map vi) ∧ Grew w w' := by
  obtain ⟨A, n, c, rfl, hn, hc⟩ := h.form
  rw [List.length_map] at hn
  have hnl : n ≤ 500 := by omega
  have HN := Lib.hid hn
  have H := Lib.hid h
  clear hn h hl
  go_enter Tryd.func26, Tryd.ntmps26
  go_wp2_with fail
  go_loopw [3, 4] (fun o i wr => ∃ (j m : Nat) (A1 : Option Addr) (c1 : Nat), j ≤ n ∧ i = .int .i64 j ∧ o = .slice A1 m c1 ∧ Mine wr w.heap.size 3 (.slice A1 m c1) ((idsR (l.take j)).map vi) ∧ Grew w wr) (fun _ i _ => n - (RowKit.intOf i).toNat)
  case atStart => exact ⟨0, 0, none, 0, by omega, rfl, rfl, by simpa [idsR] using Mine.nil w w.heap.size 3, Grew.refl w⟩
  case round =>
    obtain ⟨j, m, A1, c1, hj, rfl, rfl, hM, hG⟩ := hrel
    by_cases hlt : j < n
    · have hjl : j < l.length := by rw [← HN.out]; exact hlt
      have htk : l.take (j + 1) = l.take j ++ [l.getD j 0] := by
        rw [List.take_add_one, List.getElem?_eq_getElem hjl, List.getD_eq_getElem?_getD, List.getElem?_eq_getElem hjl]; rfl
      have hnx : idsR (l.take (j + 1)) = insU (l.getD j 0) (idsR (l.take j)) := by rw [htk, idsR_snoc]
      have hlen : m = (idsR (l.take j)).length := by have := hM.len; simpa using this
      have hmj : m ≤ 500 := by have := idsR_len (l.take j); rw [List.length_take] at this; omega
      obtain ⟨ad, rfl, hadb, hcell⟩ := (H.out.grew (Nat.le_refl _) hG).int_at hjl
      have HC := Lib.hid (show ∀ w', Grew w w' → w'.cell? (ad.add j) = some (.int .i64 (l.getD j 0)) from fun w' g => by
        obtain ⟨_, h1, _, a1⟩ := (H.out.grew (Nat.le_refl _) g).int_at hjl
        obtain rfl := Option.some.inj h1
        exact a1)
      generalize idsR (l.take j) = out at *
      generalize l.getD j 0 = x at *
      have HNX := Lib.hid hnx
      have HLEN := Lib.hid hlen
      have HR := Lib.hid hM.rd
      have HM := Lib.hid hM
      have HG := Lib.hid hG
      clear htk hnx hlen hM hG hjl hadb
      go_wp2_with fail
      go_loopw [5] (fun k w2 => ∃ (q nd : Nat), q ≤ m ∧ k = .int .i64 q ∧ (∀ t, t < q → out.getD t 0 < x) ∧ w2 = wr.drewN nd) (fun k _ => m - (RowKit.intOf k).toNat)
      case atStart => exact ⟨0, 0, by omega, rfl, fun t ht => by omega, rfl⟩
      case round =>
        obtain ⟨q, nd, hq, rfl, hall, rfl⟩ := hrel
        have HALL := Lib.hid hall
        clear hall
        by_cases hql : q < m
        · have hqo : q < out.length := by rw [← HLEN.out]; exact hql
          obtain ⟨ad2, rfl, hadb2, hcell2⟩ := HR.out.int_at (j := q) hqo
          by_cases hyx : out.getD q 0 < x
          · have HS := Lib.hid (show ∀ t, t < q + 1 → out.getD t 0 < x from fun t ht => by
              rcases Nat.lt_or_ge t q with h1 | h1
              · exact HALL.out t h1
              · obtain rfl : t = q := by omega
                exact hyx)
            generalize out.getD q 0 = y at *
            have ty : decide (y < x) = true := by simpa using hyx
            clear hyx hqo hadb2
            go_wp2_with fail
            go_quiet (fail)
            go_wp2_with fail
            go_roundw
            case rel => exact ⟨q + 1, _, by omega, by go_num, HS.out, rfl⟩
            case measure => simp [RowKit.intOf]; omega
          · have HK := Lib.hid (kOf_eq HALL.out (by omega) (fun _ => hyx))
            by_cases heq : out.getD q 0 = x
            · have HTH := Lib.hid (insU_there (x := x) (out := out) (by rw [HK.out]; exact hqo) (by rw [HK.out]; exact heq))
              generalize out.getD q 0 = y at *
              subst heq
              have ty : decide (y < y) = false := by simp
              have te : (y == y) = true := by simp
              clear hyx hqo hadb2
              go_wp2_with fail
              go_quiet (fail)
              go_wp2_with fail
              go_quiet (fail)
              go_wp2_with fail
              go_roundw
              case rel => exact ⟨j + 1, m, _, c1, by omega, by go_num, rfl, by rw [HNX.out, HTH.out]; exact HM.out, Keeps.drewN HG.out _⟩
              case measure => simp [RowKit.intOf]; omega
            · have hneq : ¬ (q < out.length ∧ out.getD q 0 = x) := fun h => heq h.2
              have HNEW := Lib.hid (insU_new (x := x) (out := out) (by rw [HK.out]; exact hneq))
              have hqm : q ≤ out.length := by rw [← HLEN.out]; omega
              have hol : out.length ≤ 500 := by rw [← HLEN.out]; omega
              generalize out.getD q 0 = y at *
              have ty : decide (y < x) = false := by simpa using hyx
              have te : (y == x) = false := by simpa using heq
              clear hyx hqo hadb2 heq hneq
              go_wp2_with fail
              go_quiet (fail)
              go_wp2_with fail
              go_quiet (fail)
              go_wp2_with (first
                | (refine sl_to slInt rfl (.tmp 46) (.tmp 47) rfl rfl rfl (by omega) HR.out ?_; intro A4 c4 r4)
                | (at_builtin; (refine app_any (v := .slice none 0 0) slInt rfl (.tmp 45) (.tmp 48) rfl rfl (Mine.nil _ wr.heap.size 3) rfl r4 (by intro u hu; have := List.mem_of_mem_take hu; rw [List.mem_map] at this; obtain ⟨_, _, rfl⟩ := this; rfl) (by simp only [List.length_nil, List.length_take, List.length_map]; omega) (Nat.le_refl _) ?_); intro A5 m5 c5 w5 hm5 hM5 hk5 hO5; (have g5 : Grew wr w5 := Keeps.then_ (Keeps.drewN (Keeps.drewN (Keeps.drewN (Grew.refl wr) _) _) _) hk5 (fun i hi (e : (Value.slice none 0 0).ownBlock = some i) => by cases e); have hs5 := g5.size; have hc5 := HC.out w5 (HG.out.trans g5); have hL5 : ([] ++ List.take q (out.map vi)).length = q := (by simp only [List.nil_append, List.length_take, List.length_map]; omega)))
                | (at_builtin; (refine app_one slInt rfl (.tmp 50) (.tmp 55) rfl rfl (hM5.alloc _) w5.heap.size 1 (.int .i64 x) rfl (Nat.le_refl _) (by simp) (by simp) rfl (by rw [hL5]; omega) (by simp; omega) ?_; intro r6 c6 w6 hM6 hk6 hr6 hb6 hl6; rw [hL5] at hM6; have g6 : Grew wr w6 := (g5.alloc _).app (hM5.alloc _) hk6; have hs6 := g6.size; have hR6 := HR.out.grew (Nat.le_refl _) g6))
                | (refine sl_from slInt rfl (.tmp 58) (.tmp 59) rfl rfl rfl (by omega) hR6 ?_; intro A7 m7 c7 hm7 r7)
                | (at_builtin; (refine app_any slInt rfl (.tmp 57) (.tmp 60) rfl rfl hM6 rfl r7 (by intro u hu; have := List.mem_of_mem_drop hu; rw [List.mem_map] at this; obtain ⟨_, _, rfl⟩ := this; rfl) (by rw [List.length_append, hL5, List.length_drop, List.length_map]; simp; omega) (by omega) ?_; intro A8 m8 c8 w8 hm8 hM8 hk8 hO8; have g8 : Grew wr w8 := g6.app hM6 hk8)))
              go_roundw
              case rel =>
                refine ⟨j + 1, _, _, _, by omega, by go_num, rfl, ?_, HG.out.trans g8⟩
                rw [HNX.out, HNEW.out, HK.out]
                have := hM8.base_le (base' := w.heap.size) HG.out.size
                simpa [vi] using this
              case measure => simp [RowKit.intOf]; omega
        · obtain rfl : q = m := by omega
          have HK := Lib.hid (kOf_eq (k := q) HALL.out (by rw [← HLEN.out]; omega) (fun h => by rw [← HLEN.out] at h; omega))
          have hneq : ¬ (q < out.length ∧ out.getD q 0 = x) := fun h => by have := h.1; rw [← HLEN.out] at this; omega
          have HNEW := Lib.hid (insU_new (x := x) (out := out) (by rw [HK.out]; exact hneq))
          have hqm : q ≤ out.length := by rw [← HLEN.out]; omega
          have hol : out.length ≤ 500 := by rw [← HLEN.out]; omega
          clear hneq
          go_wp2_with fail
          go_quiet (fail)
          go_wp2_with fail
          go_quiet (fail)
          go_wp2_with (first
            | (refine sl_to slInt rfl (.tmp 46) (.tmp 47) rfl rfl rfl (by omega) HR.out ?_; intro A4 c4 r4)
            | (at_builtin; (refine app_any (v := .slice none 0 0) slInt rfl (.tmp 45) (.tmp 48) rfl rfl (Mine.nil _ wr.heap.size 3) rfl r4 (by intro u hu; have := List.mem_of_mem_take hu; rw [List.mem_map] at this; obtain ⟨_, _, rfl⟩ := this; rfl) (by simp only [List.length_nil, List.length_take, List.length_map]; omega) (Nat.le_refl _) ?_); intro A5 m5 c5 w5 hm5 hM5 hk5 hO5; (have g5 : Grew wr w5 := Keeps.then_ (Keeps.drewN (Keeps.drewN (Keeps.drewN (Grew.refl wr) _) _) _) hk5 (fun i hi (e : (Value.slice none 0 0).ownBlock = some i) => by cases e); have hs5 := g5.size; have hc5 := HC.out w5 (HG.out.trans g5); have hL5 : ([] ++ List.take q (out.map vi)).length = q := (by simp only [List.nil_append, List.length_take, List.length_map]; omega)))
            | (at_builtin; (refine app_one slInt rfl (.tmp 50) (.tmp 55) rfl rfl (hM5.alloc _) w5.heap.size 1 (.int .i64 x) rfl (Nat.le_refl _) (by simp) (by simp) rfl (by rw [hL5]; omega) (by simp; omega) ?_; intro r6 c6 w6 hM6 hk6 hr6 hb6 hl6; rw [hL5] at hM6; have g6 : Grew wr w6 := (g5.alloc _).app (hM5.alloc _) hk6; have hs6 := g6.size; have hR6 := HR.out.grew (Nat.le_refl _) g6))
            | (refine sl_from slInt rfl (.tmp 58) (.tmp 59) rfl rfl rfl (by omega) hR6 ?_; intro A7 m7 c7 hm7 r7)
            | (at_builtin; (refine app_any slInt rfl (.tmp 57) (.tmp 60) rfl rfl hM6 rfl r7 (by intro u hu; have := List.mem_of_mem_drop hu; rw [List.mem_map] at this; obtain ⟨_, _, rfl⟩ := this; rfl) (by rw [List.length_append, hL5, List.length_drop, List.length_map]; simp; omega) (by omega) ?_; intro A8 m8 c8 w8 hm8 hM8 hk8 hO8; have g8 : Grew wr w8 := g6.app hM6 hk8)))
          go_roundw
          case rel =>
            refine ⟨j + 1, _, _, _, by omega, by go_num, rfl, ?_, HG.out.trans g8⟩
            rw [HNX.out, HNEW.out, HK.out]
            have := hM8.base_le (base' := w.heap.size) HG.out.size
            simpa [vi] using this
          case measure => simp [RowKit.intOf]; omega
    · go_wp2_with fail
      go_ret
      rw [List.take_of_length_le (by rw [← HN.out]; omega)] at hM
      exact ⟨_, rfl, hM, hG⟩
end Go.Proofs.YtgajmhpnilkmiaaDoor
