/- The reference's hash: Sum, Bytes. The reference's hash: Bytes. The reference of chapter 18: Param. The reference of chapter 18: Valid. -/
import Derived.Test.YtjiiiimhegkklaaDoorBlockDecodesP31
import Derived.Lib.ConvBytes
import Derived.Test.YtjiiiimhegkklaaDoorBlockDecodesP17
namespace Go.Proofs.YtjiiiimhegkklaaDoor
open Go.RowKit Pl

theorem Rd.w64_at {w : World} {B : Nat} {A : Option Addr} {n c j : Nat} {l : List Nat} (h : Rd w B (.slice A n c) (l.map v64)) (hj : j < l.length) : ∃ ad, A = some ad ∧ ad.block < B ∧ w.cell? (ad.add j) = some (.int .u64 (l.getD j 0 : Nat)) := by
  obtain ⟨ad, u, rfl, h1, h2, h3⟩ := h.at_ (j := j) (by rw [List.length_map]; exact hj)
  rw [List.getElem?_map, List.getElem?_eq_getElem hj] at h2
  refine ⟨ad, rfl, h1, ?_⟩
  rw [h3, ← h2, List.getD_eq_getElem?_getD, List.getElem?_eq_getElem hj]
  rfl
theorem Rd.vw_at {w : World} {B : Nat} {A : Option Addr} {n c j : Nat} {l : List Nat} (h : Rd w B (.slice A n c) (l.map vw)) (hj : j < l.length) : ∃ ad, A = some ad ∧ ad.block < B ∧ w.cell? (ad.add j) = some (.int .i64 (toI (l.getD j 0))) := by
  obtain ⟨ad, u, rfl, h1, h2, h3⟩ := h.at_ (j := j) (by rw [List.length_map]; exact hj)
  rw [List.getElem?_map, List.getElem?_eq_getElem hj] at h2
  refine ⟨ad, rfl, h1, ?_⟩
  rw [h3, ← h2, List.getD_eq_getElem?_getD, List.getElem?_eq_getElem hj]
  rfl
theorem take_getD (l : List Nat) (j : Nat) (hj : j < l.length) : l.take (j + 1) = l.take j ++ [l.getD j 0] := by
  rw [List.take_add_one, List.getElem?_eq_getElem hj, List.getD_eq_getElem?_getD, List.getElem?_eq_getElem hj]; rfl
theorem conv_grew (w : World) (e : TypeId) (s : ByteArray) : Grew w (Lib.bytesWorld w e s) :=
  ⟨rfl, rfl, rfl, by rw [Lib.bytesWorld_size]; omega, fun k hk _ => Lib.bytesWorld_at_old w e s k hk⟩
theorem conv_rd (w : World) (e : TypeId) (s : ByteArray) (lb : List Nat) (hlb : lb = s.data.toList.map UInt8.toNat) : Rd (Lib.bytesWorld w e s) (Lib.bytesWorld w e s).heap.size (.slice (some ⟨w.heap.size, 0, none⟩) s.size (grownCap w s.size 0 e)) (lb.map vb) := by
  have hl : (lb.map vb).length = s.size := by rw [hlb, List.length_map, List.length_map, Array.length_toList]; rfl
  refine ⟨_, _, by rw [hl], by rw [hl]; exact grownCap_ge _ _ _ _, fun _ => ⟨_, rfl, by rw [Lib.bytesWorld_size]; show w.heap.size < _; omega, fun j u hu => ?_⟩⟩
  have e1 : (⟨w.heap.size, 0, none⟩ : Addr).add j = ⟨w.heap.size, j, none⟩ := by unfold Addr.add; split <;> simp_all
  have hj : j < s.size := by
    have := (List.getElem?_eq_some_iff.1 hu).1
    omega
  rw [e1, Lib.bytesWorld_cell w e s j hj]
  rw [hlb, List.map_map, List.getElem?_map] at hu
  have hj2 : j < s.data.toList.length := by rw [Array.length_toList]; exact hj
  rw [List.getElem?_eq_getElem hj2] at hu
  rw [List.getD_eq_getElem?_getD, List.getElem?_eq_getElem hj2]
  exact hu

set_option maxHeartbeats 3200000 in
set_option maxRecDepth 100000 in
theorem rsum_any (s : ByteArray) (lb : List Nat) (v : Value) (ws : List Nat) (w : World) (hlb : lb = s.data.toList.map UInt8.toNat) (hlB : Bytes lb) (hls : s.size ≤ 1000000) (h : Rd w w.heap.size v (ws.map vw)) (hw : ∀ x ∈ ws, x < 18446744073709551616) (hl : ws.length ≤ 1000000000) :
    Calls Tryd.prog 119 #[.string s, v] w fun e w' => e = .returned (.int .u64 (hashSum lb ws : Nat)) ∧ Grew w w' := by
  obtain ⟨A, q, c, rfl, hq, hc⟩ := h.form
  rw [List.length_map] at hq
  have HQ := Lib.hid hq
  have H := Lib.hid h
  have HLB := Lib.hid hlb
  obtain ⟨hv, hhv⟩ : ∃ hv, hv = hashSum lb ws := ⟨_, rfl⟩
  rw [← hhv]
  have HHV := Lib.hid hhv
  clear hq h hlb hhv
  go_enter Tryd.func119, Tryd.ntmps119
  have hconv := Lib.run_convert_string_bytes (P := Tryd.prog) w 9 31 5 s Tryd.underlying9 Tryd.underlying31 Tryd.underlying5
  have hG0 := conv_grew w 5 s
  have hls2 : lb.length = s.size := by rw [HLB.out, List.length_map, Array.length_toList]; rfl
  have hrw := rwords_any _ lb _ (conv_rd w 5 s lb HLB.out) hlB (by omega)
  generalize grownCap w s.size 0 5 = gc at *
  generalize Lib.bytesWorld w 5 s = W0 at *
  have HRW := Lib.hid hrw
  have HLS := Lib.hid hls2
  clear hrw hls2
  go_wp2_with fail
  refine HRW.out.mono ?_
  rintro e w1 ⟨v1, rfl, m1, g1⟩
  obtain ⟨A1, n1, c1, rfl, hn1⟩ := m1.slice
  have hG1 := hG0.trans g1
  rw [List.length_map, words_length] at hn1
  have hnw : n1 ≤ 1000000 := by have := HLS.out; unfold nwords at hn1; omega
  have HN1 := Lib.hid hn1
  have hwl := words_lt hlB
  clear hn1 g1 hG0 HRW
  go_wp2_with fail
  go_loopw [5, 7] (fun a i wr => ∃ j : Nat, j ≤ n1 ∧ i = .int .i64 (j : Nat) ∧ a = .int .u64 (mixAll 0 ((words lb).take j) : Nat) ∧ wr = w1) (fun _ i _ => n1 - (intOf i).toNat)
  case atStart => exact ⟨0, by omega, rfl, by rw [List.take_zero, mixAll_nil]; rfl, rfl⟩
  case round =>
    obtain ⟨j, hj, rfl, rfl, rfl⟩ := hrel
    by_cases hlt : j < n1
    · have hjl : j < (words lb).length := by rw [words_length, ← HN1.out]; exact hlt
      obtain ⟨ad, rfl, hadb, hcell⟩ := m1.rd.w64_at hjl
      have HTK := Lib.hid (take_getD _ _ hjl)
      have hbx : (words lb).getD j 0 < 18446744073709551616 := by
        rw [List.getD_eq_getElem?_getD, List.getElem?_eq_getElem hjl]
        exact hwl _ (List.getElem_mem hjl)
      have HM := Lib.hid (rmix_any (mixAll 0 ((words lb).take j)) ((words lb).getD j 0) wr (mixAll_lt (by omega) _) hbx)
      have HS := Lib.hid (mixAll_snoc 0 ((words lb).take j) ((words lb).getD j 0))
      rw [← HTK.out] at HS
      generalize mixN (mixAll 0 ((words lb).take j)) ((words lb).getD j 0) = mm at *
      generalize mixAll 0 ((words lb).take j) = ma at *
      generalize (words lb).getD j 0 = b at *
      clear hjl HTK
      go_wp2_with fail
      refine HM.out.mono ?_
      rintro e w2 ⟨rfl, rfl⟩
      go_wp2_with fail
      go_roundw
      case rel => exact ⟨j + 1, by omega, by go_num, by rw [HS.out], trivial⟩
      case measure => simp [intOf]; omega
    · have hall : (words lb).take j = words lb := by
        rw [List.take_of_length_le]
        rw [words_length, ← HN1.out]; omega
      rw [hall]
      have hml := mixAll_lt (s := 0) (by omega) (words lb)
      have hql : q ≤ 1000000000 := by rw [HQ.out]; exact hl
      have HM1 := Lib.hid (rmix_any (mixAll 0 (words lb)) s.size wr hml (by omega))
      have HM2 := Lib.hid (rmix_any (mixN (mixAll 0 (words lb)) s.size) q wr (mixN_lt _ _) (by omega))
      have hs2 := mixN_lt (mixN (mixAll 0 (words lb)) s.size) q
      have hfin : hv = mixN (mixAll (mixN (mixN (mixAll 0 (words lb)) s.size) q) ws) 0 := by
        rw [HHV.out]
        unfold hashSum
        rw [HLS.out, ← HQ.out]
      have HFIN := Lib.hid hfin
      clear hfin hall HHV
      generalize mixN (mixN (mixAll 0 (words lb)) s.size) q = z2 at *
      generalize mixN (mixAll 0 (words lb)) s.size = z1 at *
      generalize mixAll 0 (words lb) = z0 at *
      have hr := H.out.grew (Nat.le_refl _) hG1
      go_wp2_with fail
      refine HM1.out.mono ?_
      rintro e w2 ⟨rfl, rfl⟩
      go_wp2_with fail
      refine HM2.out.mono ?_
      rintro e w2 ⟨rfl, rfl⟩
      go_wp2_with fail
      go_loopw [5, 8] (fun a i wq => ∃ j : Nat, j ≤ q ∧ i = .int .i64 (j : Nat) ∧ a = .int .u64 (mixAll z2 (ws.take j) : Nat) ∧ wq = wr) (fun _ i _ => q - (intOf i).toNat)
      case atStart => exact ⟨0, by omega, rfl, by rw [List.take_zero, mixAll_nil], rfl⟩
      case round =>
        obtain ⟨j, hj, rfl, rfl, rfl⟩ := hrel
        by_cases hlt : j < q
        · have hjl : j < ws.length := by rw [← HQ.out]; exact hlt
          obtain ⟨ad, rfl, hadb, hcell⟩ := hr.vw_at hjl
          have HTK := Lib.hid (take_getD _ _ hjl)
          have hbx : ws.getD j 0 < 18446744073709551616 := by
            rw [List.getD_eq_getElem?_getD, List.getElem?_eq_getElem hjl]
            exact hw _ (List.getElem_mem hjl)
          have HM := Lib.hid (rmix_any (mixAll z2 (ws.take j)) (ws.getD j 0) wr (mixAll_lt hs2 _) hbx)
          have HS := Lib.hid (mixAll_snoc z2 (ws.take j) (ws.getD j 0))
          have hb1 := toI_back hbx
          have hb2 : toI (ws.getD j 0) % 18446744073709551616 = ((ws.getD j 0 : Nat) : Int) := by rw [← IntKind.wrap_u64]; exact hb1
          have hbi := toI_I64 hbx
          rw [← HTK.out] at HS
          generalize mixN (mixAll z2 (ws.take j)) (ws.getD j 0) = mm at *
          generalize mixAll z2 (ws.take j) = ma at *
          generalize toI (ws.getD j 0) = y at *
          generalize ws.getD j 0 = b at *
          clear hjl HTK
          go_wp2_with fail
          refine HM.out.mono ?_
          rintro e w2 ⟨rfl, rfl⟩
          go_wp2_with fail
          go_roundw
          case rel => exact ⟨j + 1, by omega, by go_num, by rw [HS.out], trivial⟩
          case measure => simp [intOf]; omega
        · have hall : ws.take j = ws := by
            rw [List.take_of_length_le]
            rw [← HQ.out]; omega
          rw [hall]
          have HM3 := Lib.hid (rmix_any (mixAll z2 ws) 0 wr (mixAll_lt hs2 _) (by omega))
          rw [← HFIN.out] at HM3
          generalize mixAll z2 ws = z3 at *
          go_wp2_with fail
          refine HM3.out.mono ?_
          rintro e w2 ⟨rfl, rfl⟩
          go_wp2_with fail
          go_ret
          exact ⟨rfl, hG1⟩
end Go.Proofs.YtjiiiimhegkklaaDoor
namespace Go.Proofs.YtjiiiimhegkklaaDoor
open Go.RowKit Pl

theorem hashB_said (lb bs : List Nat) : hashB lb bs = hashSum lb (words bs ++ [bs.length]) := by unfold hashB; rfl
set_option maxHeartbeats 3200000 in
set_option maxRecDepth 100000 in
theorem rbytes_any (s : ByteArray) (lb : List Nat) (v : Value) (bs : List Nat) (w : World) (hlb : lb = s.data.toList.map UInt8.toNat) (hlB : Bytes lb) (hls : s.size ≤ 1000000) (h : Rd w w.heap.size v (bs.map vb)) (hbb : Bytes bs) (hl : bs.length ≤ 1000000) :
    Calls Tryd.prog 92 #[.string s, v] w fun e w' => e = .returned (.int .u64 (hashB lb bs : Nat)) ∧ Grew w w' := by
  obtain ⟨hv, hhv⟩ : ∃ hv, hv = hashB lb bs := ⟨_, rfl⟩
  rw [← hhv]
  rw [hashB_said] at hhv
  have HHV := Lib.hid hhv
  clear hhv
  have HRW := Lib.hid (rwords_any v bs w h hbb hl)
  obtain ⟨A, q, c, rfl, hq, hc⟩ := h.form
  rw [List.length_map] at hq
  have hqL : q ≤ 1000000 := by omega
  have HQ := Lib.hid hq
  have HSM := Lib.hid (fun v w h => rsum_any s lb v (words bs ++ [bs.length]) w hlb hlB hls h (fun x hx => by
      rcases List.mem_append.1 hx with h5 | h5
      · exact words_lt hbb x h5
      · have := List.mem_singleton.1 h5; omega) (by rw [List.length_append, words_length]; unfold nwords; simp; omega))
  rw [← HHV.out] at HSM
  clear hq h hlb HHV
  go_enter Tryd.func92, Tryd.ntmps92
  go_wp2_with fail
  refine HRW.out.mono ?_
  rintro e w1 ⟨v1, rfl, m1, g1⟩
  obtain ⟨A1, n1, c1, rfl, hn1⟩ := m1.slice
  rw [List.length_map, words_length] at hn1
  have hnw : n1 ≤ 1000000 := by unfold nwords at hn1; omega
  have HN1 := Lib.hid hn1
  have hwl := words_lt hbb
  have hs1 := g1.size
  clear hn1 HRW
  go_wp2_with fail
  go_loopw [6, 7] (fun a i wr => ∃ (j m : Nat) (A2 : Option Addr) (c2 : Nat), j ≤ n1 ∧ i = .int .i64 (j : Nat) ∧ a = .slice A2 m c2 ∧ Mine wr w1.heap.size 3 (.slice A2 m c2) (((words bs).take j).map vw) ∧ Grew w1 wr) (fun _ i _ => n1 - (intOf i).toNat)
  case atStart => exact ⟨0, 0, none, 0, by omega, rfl, rfl, by rw [List.take_zero]; exact Mine.nil _ _ _, Grew.refl _⟩
  case round =>
    obtain ⟨j, m, A2, c2, hj, rfl, rfl, hM, hG⟩ := hrel
    have hsz := hG.size
    by_cases hlt : j < n1
    · have hjl : j < (words bs).length := by rw [words_length, ← HN1.out]; exact hlt
      obtain ⟨ad, rfl, hadb, hcell⟩ := (m1.rd.grew (Nat.le_refl _) hG).w64_at hjl
      have HTK := Lib.hid (take_getD _ _ hjl)
      have hbx : (words bs).getD j 0 < 18446744073709551616 := by
        rw [List.getD_eq_getElem?_getD, List.getElem?_eq_getElem hjl]
        exact hwl _ (List.getElem_mem hjl)
      have hcv : wrap64 (((words bs).getD j 0 : Nat) : Int) = toI ((words bs).getD j 0) := by rw [← IntWalk.i64_left]; exact toI_of hbx
      have HCV := Lib.hid hcv
      have hml : (((words bs).take j).map vw).length < 1099511627776 := by rw [List.length_map, List.length_take]; omega
      clear hcv hjl
      generalize (words bs).getD j 0 = b at *
      go_wp2_with (at_builtin; refine app_one slInt rfl (.tmp 16) (.tmp 22) rfl rfl (hM.alloc _) wr.heap.size 1 (.int .i64 (wrap64 (b : Int))) rfl (Nat.le_refl _) (by simp) (by simp) rfl hml (by simp; omega) ?_; intro r cap w2 hM1 hk1 hr1 hbr1 hlr1)
      rw [HCV.out] at hM1
      go_roundw
      case rel => exact ⟨j + 1, _, _, _, by omega, by go_num, rfl, by rw [HTK.out, List.map_append]; rw [List.length_map, List.length_take] at hM1; exact hM1, (hG.alloc _).app (hM.alloc _) hk1⟩
      case measure => simp [intOf]; omega
    · have hall : (words bs).take j = words bs := by
        rw [List.take_of_length_le]
        rw [words_length, ← HN1.out]; omega
      rw [hall] at hM
      have hml : ((words bs).map vw).length < 1099511627776 := by rw [List.length_map, words_length, ← HN1.out]; omega
      have hqi : toI bs.length = (q : Int) := by rw [← HQ.out]; exact toI_small (by omega)
      have HQI := Lib.hid hqi
      clear hqi hall
      go_wp2_with (at_builtin; refine app_one slInt rfl (.tmp 25) (.tmp 28) rfl rfl (hM.alloc _) wr.heap.size 1 (.int .i64 (q : Nat)) rfl (Nat.le_refl _) (by simp) (by simp) rfl hml (by simp; omega) ?_; intro r cap w2 hM1 hk1 hr1 hbr1 hlr1)
      have hM2 : Mine w2 w1.heap.size 3 (.slice (some ⟨r, 0, none⟩) ((words bs).length + 1) cap) ((words bs ++ [bs.length]).map vw) := by
        rw [List.length_map] at hM1
        rw [List.map_append, List.map_cons, List.map_nil]
        unfold vw at hM1 ⊢
        rw [HQI.out]
        exact hM1
      have hG2 : Grew w1 w2 := (hG.alloc _).app (hM.alloc _) hk1
      try rw [List.length_map]
      refine (HSM.out _ _ hM2.rd).mono ?_
      rintro e w3 ⟨rfl, g3⟩
      go_wp2_with fail
      go_ret
      exact ⟨rfl, (g1.trans hG2).trans g3⟩
end Go.Proofs.YtjiiiimhegkklaaDoor
namespace Go.Proofs.YtjiiiimhegkklaaDoor
open Go.RowKit Pl

def okP (k p : Int) : Prop := 0 ≤ k ∧ k ≤ 4 ∧ pLo k.toNat ≤ p ∧ p ≤ pHi k.toNat
instance (k p : Int) : Decidable (okP k p) := by unfold okP; infer_instance
set_option maxHeartbeats 3200000 in
set_option maxRecDepth 100000 in
theorem rparam_any (k p : Int) (w : World) :
    Calls Tryd.prog 100 #[.int .i64 k, .int .i64 p] w fun e w' => e = .returned (.bool (decide (okP k p))) ∧ w' = w := by
  obtain ⟨b, hb⟩ : ∃ b, b = decide (okP k p) := ⟨_, rfl⟩
  rw [← hb]
  have HB := Lib.hid hb
  clear hb
  go_enter Tryd.func100, Tryd.ntmps100
  go_wp2_with fail
  all_goals (go_ret; refine ⟨?_, rfl⟩; have hb := HB.out; subst hb; refine congrArg Ending.returned (congrArg Value.bool ?_); rw [Bool.eq_iff_iff]; simp [okP, pLo, pHi] at *; omega)
end Go.Proofs.YtjiiiimhegkklaaDoor
namespace Go.Proofs.YtjiiiimhegkklaaDoor
open Go.RowKit Pl

set_option maxHeartbeats 12800000 in
set_option maxRecDepth 100000 in
theorem rvalid_any (x : Clm) (A : Option Addr) (n c : Nat) (w : World) :
    Calls Tryd.prog 66 #[vbl x (.slice A n c)] w fun e w' => e = .returned (.bool (decide (okB x))) ∧ Grew w w' := by
  obtain ⟨s, k, p, co⟩ := x
  unfold vbl
  simp only
  have hb0 := Box.new w 27 #[.int .i64 s, .int .i64 k, .int .i64 p, .int .i64 co, .slice A n c]
  have hG0 : Grew w (w.alloc (.cells #[.int .i64 s, .int .i64 k, .int .i64 p, .int .i64 co, .slice A n c] 27)) := (Grew.refl w).alloc _
  obtain ⟨d, hd⟩ : ∃ d, d = decide (okB (s, k, p, co)) := ⟨_, rfl⟩
  rw [← hd]
  have HD := Lib.hid hd
  clear hd
  go_enter Tryd.func66, Tryd.ntmps66
  go_upto_region 1 with fail
  generalize w.alloc (.cells #[.int .i64 s, .int .i64 k, .int .i64 p, .int .i64 co, .slice A n c] 27) = w1 at *
  have c0 : w1.cell? ⟨w.heap.size, 0, none⟩ = some (.int .i64 s) := hb0.cell 0
  have c1 : w1.cell? ⟨w.heap.size, 1, none⟩ = some (.int .i64 k) := hb0.cell 1
  have c2 : w1.cell? ⟨w.heap.size, 2, none⟩ = some (.int .i64 p) := hb0.cell 2
  have c3 : w1.cell? ⟨w.heap.size, 3, none⟩ = some (.int .i64 co) := hb0.cell 3
  clear hb0
  have HP := Lib.hid (rparam_any k p w1)
  have HO := Lib.hid (show okB (s, k, p, co) ↔ (okP k p ∧ 0 ≤ s ∧ s < 4096 ∧ 0 ≤ co ∧ co ≤ 4398046511104 ∧ (k ≠ 0 ∨ co = 0)) by unfold okB okP; simp only; omega)
  go_wp2_with fail
  refine HP.out.mono ?_
  rintro e w2 ⟨rfl, rfl⟩
  clear HP
  by_cases h0 : okP k p
  · rw [decide_eq_true h0]
    go_wp2_with fail
    all_goals (go_ret; refine ⟨?_, hG0⟩; have hb := HD.out; subst hb; have ho := HO.out; refine congrArg Ending.returned (congrArg Value.bool ?_); rw [Bool.eq_iff_iff]; simp at *; simp [ho, h0]; omega)
  · rw [decide_eq_false h0]
    go_wp2_with fail
    go_ret
    refine ⟨?_, hG0⟩
    rw [HD.out, decide_eq_false (fun h => h0 (HO.out.1 h).1)]
    rfl
end Go.Proofs.YtjiiiimhegkklaaDoor
