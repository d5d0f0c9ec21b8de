/- hash.Sum: the hash of a label and words. -/
import Derived.Test.YtgkmfblmkfclbaaGreatDoorBlockSoundP14
namespace Go.Proofs.YtgkmfblmkfclbaaGreatDoor
open Go.RowKit Go.Shelf Pl
attribute [local go_sem] Oper.semAt_some

/- a word as an int -/
def toI (x : Nat) : Int := if x < 9223372036854775808 then (x : Int) else (x : Int) - 18446744073709551616
def vw (x : Nat) : Value := .int .i64 (toI x)
theorem toI_back {x : Nat} (h : x < 18446744073709551616) : IntKind.u64.wrap (toI x) = (x : Int) := by
  rw [IntKind.wrap_u64]; unfold toI; split <;> omega
theorem toI_of {x : Nat} (h : x < 18446744073709551616) : IntKind.i64.wrap (x : Int) = toI x := by
  rw [IntKind.wrap_i64]; unfold toI; split <;> omega
theorem toI_small {x : Nat} (h : x < 9223372036854775808) : toI x = (x : Int) := if_pos h
theorem toI_I64 {x : Nat} (h : x < 18446744073709551616) : -9223372036854775808 ≤ toI x ∧ toI x ≤ 9223372036854775807 := by unfold toI; split <;> omega

def accM (pre : List W64) : Nat := mixAll 0 (pre.map (fun x => x.val))
theorem accM_lt (pre : List W64) : accM pre < 18446744073709551616 := by
  unfold accM
  rcases List.eq_nil_or_concat pre with rfl | ⟨l, x, rfl⟩
  · simp [mixAll]
  · rw [List.concat_eq_append, List.map_append, List.map_cons, List.map_nil, mixAll_snoc]; exact mixN_lt _ _
theorem mixAll_lt {s : Nat} (hs : s < 18446744073709551616) (l : List Nat) : mixAll s l < 18446744073709551616 := by
  rcases List.eq_nil_or_concat l with rfl | ⟨l, x, rfl⟩
  · exact hs
  · rw [List.concat_eq_append, mixAll_snoc]; exact mixN_lt _ _
theorem accM_snoc (pre : List W64) (x : W64) : accM (pre ++ [x]) = mixN (accM pre) x.val := by
  unfold accM
  rw [List.map_append, List.map_cons, List.map_nil, mixAll_snoc]
theorem kpb_put {B0 Bn : Nat} {W : World} {l : Nat} {o o' : Obj} (hl : B0 ≤ l) (hn : Bn < l) (h : W.heap[l]? = some o) : KpB B0 Bn W (W.putObj l o') := fun k hk => by
  have hlt : l < W.heap.size := by
    rcases Nat.lt_or_ge l W.heap.size with h1 | h1
    · exact h1
    · rw [Array.getElem?_eq_none h1] at h; cases h
  have hkl : k < l := by omega
  exact (grownBy_putObj' W l o').block k (by omega) (fun e => by injection e with e; omega)
theorem kpb_set {B0 Bn : Nat} {W : World} {p : Addr} {u : Value} (h1 : B0 ≤ p.block) (h2 : p.block ≠ Bn) : KpB B0 Bn W (W.setCell p u) := fun k hk =>
  Below.heap_setCell W p u k (by omega)

set_option maxRecDepth 100000 in
set_option maxHeartbeats 3200000 in
theorem hsum_any (s : ByteArray) (lb : List Nat) (v : Value) (ws : List Nat) (w : World) (hlb : lb = s.data.toList.map UInt8.toNat) (hlB : Bytes lb) (hls : s.size ≤ 1000000) (h : Rd w w.heap.size v (ws.map vw)) (hw : ∀ x ∈ ws, x < 18446744073709551616) (hl : ws.length ≤ 1000000000) :
    Calls Tryz.prog 52 #[.string s, v] w fun e w' => e = .returned (.int .u64 (hashSum lb ws : Nat)) ∧ Grew w w' := by
  obtain ⟨A, q, c, rfl, hq, hc⟩ := h.form
  rw [List.length_map] at hq
  have HQ := Lib.hid hq
  have H := Lib.hid h
  have HLB := Lib.hid hlb
  clear hq h hlb
  refine (callsIn_wide (n := 5)).1 ?_
  refine callsIn_of_wp_marks Tryz.func52 rfl trivial ?_ rfl
  simp only [Tryz.ntmps52, List.size_toArray, List.length_cons, List.length_nil, Nat.reduceAdd, Nat.reduceSub, Array.replicate_succ, Array.replicate_zero, List.push_toArray, List.append_toArray, List.nil_append, List.cons_append]
  gi_wp2_with (refine ⟨trivial, ?_⟩; gi_at_call 72; refine (callsIn_wide.2 (groupsS_any _ _)).mono ?_; rintro e w' ⟨rfl, rfl⟩)
  have hB0 := (Box.new w 65 #[Value.int .u64 0]).alloc (.cells #[Value.string s] 9)
  have hB1 := Box.new (w.alloc (.cells #[Value.int .u64 0] 65)) 9 #[Value.string s]
  have hG0 : Grew w ((w.alloc (.cells #[Value.int .u64 0] 65)).alloc (.cells #[Value.string s] 9)) := ((Grew.refl w).alloc _).alloc _
  have hsz : ((w.alloc (.cells #[Value.int .u64 0] 65)).alloc (.cells #[Value.string s] 9)).heap.size = w.heap.size + 2 := by simp
  rw [World.size_alloc] at hB1
  generalize ((w.alloc (.cells #[Value.int .u64 0] 65)).alloc (.cells #[Value.string s] 9)) = W0 at *
  refine wpIn_rangeFunc_ownF (α := W64) rfl (by omega) (gf := 91) (lb := #[.pointer (some ⟨w.heap.size + 1, 0, none⟩)]) rfl trivial (enters_of Tryz.func91 (by kernel_rfl) rfl)
    (gst_stops Fence.wide 4 trivial rfl (by omega) (w.heap.size + 1) w.heap.size s lb hlB HLB.out (by omega) W0 (by omega) (hB1.cell 0)) (fun h k => h.trans k) (fun W l o o' hl ho _ _ => kpb_put (by omega) (by omega) ho) (Below.refl _ _) (fun _ => rfl)
    (fun pre W => Grew w W ∧ Box W w.heap.size 65 #[.int .u64 (accM pre : Nat)])
    (fun _ _ _ => False)
    (fun pre A B row ⟨h1, h2⟩ hg hr => ⟨Keeps.abides h1 hg (by omega) (fun r e => (hr r e).1), h2.abides hg (fun r e => (hr r e).2)⟩)
    (fun _ _ _ _ _ hs _ _ => hs)
    ⟨hG0, hB0⟩
    (fun x => { tmps := #[.string s, .slice A q c, undef, undef, .int .u64 0, .pointer (some ⟨w.heap.size, 0, none⟩), .int .u64 (x.val : Nat), undef, undef, .string s, .func (.func 91) #[] #[.pointer (some ⟨w.heap.size + 1, 0, none⟩)], .int .u64 (x.val : Nat), undef, undef, undef, undef, undef, undef, undef, undef, undef, undef, undef, undef, undef, undef, undef, undef, undef, undef, undef, undef, undef, undef, undef, undef, undef, undef], defers := [] }) ?assign ?body ?done ?stop
  case assign =>
    intro l x W K hK
    gi_wp2
    exact hK
  case body =>
    rintro l pre x W ⟨h1, h2⟩ hpre
    have hx := x.isLt
    have c0 := h2.cell 0
    have f0 := h2.frozen 0
    simp only [List.getElem?_toArray, List.getElem?_cons_zero] at c0
    have HM := Lib.hid (mix_any (accM pre) x.val W (accM_lt pre) hx)
    have HA := Lib.hid (accM_snoc pre x)
    gi_wp2_with (refine ⟨trivial, ?_⟩; gi_at_call 73; refine (CallsIn.inRound l (callsIn_wide.2 HM.out)).mono ?_; rintro e w2 ⟨rfl, rfl⟩)
    refine ⟨KeepsOthers.setCell _ _ _, kpb_set (Nat.le_refl _) (by show w.heap.size ≠ w.heap.size + 1; omega), Keeps.setCell h1 (.inr (Nat.le_refl _)) _, ?_⟩
    rw [HA.out]
    simpa using h2.set_ 0 (.int .u64 (mixN (accM pre) x.val : Nat))
  case done =>
    rintro D ys W hD rfl ⟨h1, h2⟩ hK
    have hacc : accM (wordsF lb) = mixAll 0 (words lb) := by unfold accM; rw [wordsF_val hlB]
    rw [hacc] at h2
    have hls2 : lb.length = s.size := by rw [HLB.out, List.length_map, Array.length_toList]; rfl
    have c0 := h2.cell 0
    have f0 := h2.frozen 0
    simp only [List.getElem?_toArray, List.getElem?_cons_zero] at c0
    have hDw : w.heap.size < D := by omega
    have hqL : q ≤ 1000000000 := by rw [HQ.out]; exact hl
    gi_wp2
    refine ⟨trivial, ?_⟩
    refine (callsIn_wide.2 (mix_any _ _ W (mixAll_lt (by omega) _) (by omega))).mono ?_
    rintro e w2 ⟨rfl, hw2⟩
    rw [← hw2]
    have h3 : Box (W.setCell ⟨w.heap.size, 0, none⟩ (.int .u64 (mixN (mixAll 0 (words lb)) s.size : Nat))) w.heap.size 65 #[.int .u64 (mixN (mixAll 0 (words lb)) s.size : Nat)] := by simpa using h2.set_ 0 (.int .u64 (mixN (mixAll 0 (words lb)) s.size : Nat))
    have g3 : Grew w (W.setCell ⟨w.heap.size, 0, none⟩ (.int .u64 (mixN (mixAll 0 (words lb)) s.size : Nat))) := Keeps.setCell h1 (.inr (Nat.le_refl _)) _
    have k3 : (W.setCell ⟨w.heap.size, 0, none⟩ (.int .u64 (mixN (mixAll 0 (words lb)) s.size : Nat))).heap[D]? = some (.deferred (some [])) := (Below.heap_setCell W _ _ D (by show D ≠ w.heap.size; omega)).trans hK
    have H3 := Lib.hid h3
    have G3 := Lib.hid g3
    have K3 := Lib.hid k3
    clear hw2 w2 h3 g3 k3
    gi_wp2
    generalize W.setCell ⟨w.heap.size, 0, none⟩ (.int .u64 (mixN (mixAll 0 (words lb)) s.size : Nat)) = W3 at *
    have hms : mixN (mixAll 0 (words lb)) s.size = mixN (mixAll 0 (words lb)) lb.length := by rw [hls2]
    rw [hms] at H3 ⊢
    obtain ⟨s1, hs1⟩ : ∃ s1, s1 = mixN (mixAll 0 (words lb)) lb.length := ⟨_, rfl⟩
    have hs1l : s1 < 18446744073709551616 := by rw [hs1]; exact mixN_lt _ _
    rw [← hs1] at H3 ⊢
    have HS1 := Lib.hid hs1
    clear hs1 hms c0 f0 h1 h2 hacc hK hls2
    refine ⟨trivial, ?_⟩
    refine (callsIn_wide.2 (mix_any s1 q W3 hs1l (by omega))).mono ?_
    rintro e w2 ⟨rfl, hw2⟩
    rw [← hw2]
    have h4 : Box (W3.setCell ⟨w.heap.size, 0, none⟩ (.int .u64 (mixN s1 q : Nat))) w.heap.size 65 #[.int .u64 (mixN s1 q : Nat)] := by simpa using H3.out.set_ 0 (.int .u64 (mixN s1 q : Nat))
    have H4 := Lib.hid h4
    have G4 := Lib.hid (show Grew w (W3.setCell ⟨w.heap.size, 0, none⟩ (.int .u64 (mixN s1 q : Nat))) from Keeps.setCell G3.out (.inr (Nat.le_refl _)) _)
    have K4 := Lib.hid (show (W3.setCell ⟨w.heap.size, 0, none⟩ (.int .u64 (mixN s1 q : Nat))).heap[D]? = some (.deferred (some [])) from (Below.heap_setCell W3 _ _ D (by show D ≠ w.heap.size; omega)).trans K3.out)
    have c3 := H3.out.cell 0
    have f3 := H3.out.frozen 0
    simp only [List.getElem?_toArray, List.getElem?_cons_zero] at c3
    clear hw2 w2 h4
    gi_wp2
    generalize W3.setCell ⟨w.heap.size, 0, none⟩ (.int .u64 (mixN s1 q : Nat)) = W4 at *
    have hs2l : mixN s1 q < 18446744073709551616 := mixN_lt _ _
    have hs2e : hashSum lb ws = mixN (mixAll (mixN s1 q) ws) 0 := by unfold hashSum; rw [← HS1.out, HQ.out]
    have HS2 := Lib.hid hs2e
    clear hs2e
    generalize mixN s1 q = s2 at *
    clear c3 f3 H3 G3 K3
    gi_loopw [27] (fun i wr => ∃ j : Nat, j ≤ q ∧ i = .int .i64 (j : Nat) ∧ Box wr w.heap.size 65 #[.int .u64 (mixAll s2 (ws.take j) : Nat)] ∧ Grew w wr ∧ wr.heap[D]? = some (.deferred (some []))) (fun i _ => q - (intOf i).toNat)
    case atStart => exact ⟨0, by omega, rfl, by rw [List.take_zero, mixAll_nil]; exact H4.out, G4.out, K4.out⟩
    case round =>
      clear H4 G4 K4
      obtain ⟨j, hj, rfl, h4, g4, k4⟩ := hrel
      have c4 := h4.cell 0
      have f4 := h4.frozen 0
      simp only [List.getElem?_toArray, List.getElem?_cons_zero] at c4
      have hml := mixAll_lt hs2l (ws.take j)
      have H4 := Lib.hid h4
      have K4 := Lib.hid k4
      clear h4 k4
      by_cases hlt : j < q
      · have hjl : j < ws.length := by rw [← HQ.out]; exact hlt
        obtain ⟨ad, u, rfl, hadb, hu, hcell⟩ := (H.out.grew (Nat.le_refl _) g4).at_ (j := j) (by rw [List.length_map]; exact hjl)
        have hue : u = .int .i64 (toI (ws.getD j 0)) := by
          rw [List.getElem?_map, List.getElem?_eq_getElem hjl] at hu
          rw [List.getD_eq_getElem?_getD, List.getElem?_eq_getElem hjl]
          exact (Option.some.inj hu).symm
        have hxl : ws.getD j 0 < 18446744073709551616 := by
          rw [List.getD_eq_getElem?_getD, List.getElem?_eq_getElem hjl]; exact hw _ (List.getElem_mem _)
        have hst : mixAll s2 (ws.take (j + 1)) = mixN (mixAll s2 (ws.take j)) (ws.getD j 0) := by
          rw [List.take_add_one, List.getElem?_eq_getElem hjl, List.getD_eq_getElem?_getD, List.getElem?_eq_getElem hjl]
          exact mixAll_snoc _ _ _
        rw [hue] at hcell
        have hb1 := toI_back hxl
        have hb2 : toI (ws.getD j 0) % 18446744073709551616 = ((ws.getD j 0 : Nat) : Int) := by rw [← IntKind.wrap_u64]; exact hb1
        have hi2 := toI_I64 hxl
        have HST := Lib.hid hst
        have HM := Lib.hid (mix_any (mixAll s2 (ws.take j)) (ws.getD j 0) wr hml hxl)
        clear hu hue hst hjl
        generalize toI (ws.getD j 0) = y at *
        generalize ws.getD j 0 = x at *
        generalize mixAll s2 (ws.take j) = m at *
        gi_wp2_with (refine ⟨trivial, ?_⟩; gi_at_call 73; refine (callsIn_wide.2 HM.out).mono ?_; rintro e w2 ⟨rfl, rfl⟩)
        go_roundw
        case rel =>
          refine ⟨j + 1, by omega, by go_num, ?_, Keeps.setCell g4 (.inr (Nat.le_refl _)) _, (Below.heap_setCell wr _ _ D (by show D ≠ w.heap.size; omega)).trans K4.out⟩
          rw [HST.out]
          simpa using H4.out.set_ 0 (.int .u64 (mixN m x : Nat))
        case measure => simp [intOf]; omega
      · obtain rfl : j = q := by omega
        have hall : ws.take j = ws := List.take_of_length_le (by rw [← HQ.out]; omega)
        rw [hall] at hml c4
        have HM := Lib.hid (mix_any (mixAll s2 ws) 0 wr hml (by omega))
        clear hall
        gi_wp2_with (refine ⟨trivial, ?_⟩; gi_at_call 73; refine (callsIn_wide.2 HM.out).mono ?_; rintro e w2 ⟨rfl, rfl⟩)
        refine ⟨by simp, .inl ⟨_, _, rfl, run_takeDeferred K4.out, ?_⟩⟩
        refine ⟨_, results_tmp rfl _ _ _, ?_, ?_⟩
        · rw [HS2.out]; rfl
        · exact Keeps.abides g4 (grownBy_putObj' wr D _) (B := W0.heap.size) (by omega) (fun r e => by cases e; exact hD)
  case stop =>
    rintro D c pre W _ _ h _
    exact h.elim
end Go.Proofs.YtgkmfblmkfclbaaGreatDoor
