/- hash.Sum: the hash of a label and words. The reference's hash: mix, Words, Sum, Bytes. -/
import Derived.Test.YtjiiiimhegkklaaDoorBlockEqualP25
import Derived.Test.YtjiiiimhegkklaaDoorBlockEqualP08
import Derived.Test.YtjiiiimhegkklaaDoorBlockEqualP11
namespace Go.Proofs.YtjiiiimhegkklaaDoor
open Go.RowKit Go.Shelf Pl
attribute [local go_sem] Oper.semAt_some

/- a word as an int -/
def toI (x : Nat) : Int := if x < 9223372036854775808 then (x : Int) else (x : Int) - 18446744073709551616
def vw (x : Nat) : Value := .int .i64 (toI x)
theorem toI_back {x : Nat} (h : x < 18446744073709551616) : IntKind.u64.wrap (toI x) = (x : Int) := by
  rw [IntKind.wrap_u64]; unfold toI; split <;> omega
theorem toI_of {x : Nat} (h : x < 18446744073709551616) : IntKind.i64.wrap (x : Int) = toI x := by
  rw [IntKind.wrap_i64]; unfold toI; split <;> omega
theorem toI_small {x : Nat} (h : x < 9223372036854775808) : toI x = (x : Int) := if_pos h
theorem toI_I64 {x : Nat} (h : x < 18446744073709551616) : -9223372036854775808 ≤ toI x ∧ toI x ≤ 9223372036854775807 := by unfold toI; split <;> omega

def accM (pre : List W64) : Nat := mixAll 0 (pre.map (fun x => x.val))
theorem accM_lt (pre : List W64) : accM pre < 18446744073709551616 := by
  unfold accM
  rcases List.eq_nil_or_concat pre with rfl | ⟨l, x, rfl⟩
  · simp [mixAll]
  · rw [List.concat_eq_append, List.map_append, List.map_cons, List.map_nil, mixAll_snoc]; exact mixN_lt _ _
theorem mixAll_lt {s : Nat} (hs : s < 18446744073709551616) (l : List Nat) : mixAll s l < 18446744073709551616 := by
  rcases List.eq_nil_or_concat l with rfl | ⟨l, x, rfl⟩
  · exact hs
  · rw [List.concat_eq_append, mixAll_snoc]; exact mixN_lt _ _
theorem accM_snoc (pre : List W64) (x : W64) : accM (pre ++ [x]) = mixN (accM pre) x.val := by
  unfold accM
  rw [List.map_append, List.map_cons, List.map_nil, mixAll_snoc]
theorem kpb_put {B0 Bn : Nat} {W : World} {l : Nat} {o o' : Obj} (hl : B0 ≤ l) (hn : Bn < l) (h : W.heap[l]? = some o) : KpB B0 Bn W (W.putObj l o') := fun k hk => by
  have hlt : l < W.heap.size := by
    rcases Nat.lt_or_ge l W.heap.size with h1 | h1
    · exact h1
    · rw [Array.getElem?_eq_none h1] at h; cases h
  have hkl : k < l := by omega
  exact (grownBy_putObj' W l o').block k (by omega) (fun e => by injection e with e; omega)
theorem kpb_set {B0 Bn : Nat} {W : World} {p : Addr} {u : Value} (h1 : B0 ≤ p.block) (h2 : p.block ≠ Bn) : KpB B0 Bn W (W.setCell p u) := fun k hk =>
  Below.heap_setCell W p u k (by omega)

set_option maxRecDepth 100000 in
set_option maxHeartbeats 3200000 in
theorem hsum_any (s : ByteArray) (lb : List Nat) (v : Value) (ws : List Nat) (w : World) (hlb : lb = s.data.toList.map UInt8.toNat) (hlB : Bytes lb) (hls : s.size ≤ 1000000) (h : Rd w w.heap.size v (ws.map vw)) (hw : ∀ x ∈ ws, x < 18446744073709551616) (hl : ws.length ≤ 1000000000) :
    Calls Tryd.prog 99 #[.string s, v] w fun e w' => e = .returned (.int .u64 (hashSum lb ws : Nat)) ∧ Grew w w' := by
  obtain ⟨A, q, c, rfl, hq, hc⟩ := h.form
  rw [List.length_map] at hq
  have HQ := Lib.hid hq
  have H := Lib.hid h
  have HLB := Lib.hid hlb
  clear hq h hlb
  refine (callsIn_wide (n := 5)).1 ?_
  refine callsIn_of_wp_marks Tryd.func99 rfl trivial ?_ rfl
  simp only [Tryd.ntmps99, List.size_toArray, List.length_cons, List.length_nil, Nat.reduceAdd, Nat.reduceSub, Array.replicate_succ, Array.replicate_zero, List.push_toArray, List.append_toArray, List.nil_append, List.cons_append]
  gi_wp2_with (refine ⟨trivial, ?_⟩; gi_at_call 122; refine (callsIn_wide.2 (groupsS_any _ _)).mono ?_; rintro e w' ⟨rfl, rfl⟩)
  have hB0 := (Box.new w 95 #[Value.int .u64 0]).alloc (.cells #[Value.string s] 9)
  have hB1 := Box.new (w.alloc (.cells #[Value.int .u64 0] 95)) 9 #[Value.string s]
  have hG0 : Grew w ((w.alloc (.cells #[Value.int .u64 0] 95)).alloc (.cells #[Value.string s] 9)) := ((Grew.refl w).alloc _).alloc _
  have hsz : ((w.alloc (.cells #[Value.int .u64 0] 95)).alloc (.cells #[Value.string s] 9)).heap.size = w.heap.size + 2 := by simp
  rw [World.size_alloc] at hB1
  generalize ((w.alloc (.cells #[Value.int .u64 0] 95)).alloc (.cells #[Value.string s] 9)) = W0 at *
  refine wpIn_rangeFunc_ownF (α := W64) rfl (by omega) (gf := 130) (lb := #[.pointer (some ⟨w.heap.size + 1, 0, none⟩)]) rfl trivial (enters_of Tryd.func130 (by kernel_rfl) rfl)
    (gst_stops Fence.wide 4 trivial rfl (by omega) (w.heap.size + 1) w.heap.size s lb hlB HLB.out (by omega) W0 (by omega) (hB1.cell 0)) (fun h k => h.trans k) (fun W l o o' hl ho _ _ => kpb_put (by omega) (by omega) ho) (Below.refl _ _) (fun _ => rfl)
    (fun pre W => Grew w W ∧ Box W w.heap.size 95 #[.int .u64 (accM pre : Nat)])
    (fun _ _ _ => False)
    (fun pre A B row ⟨h1, h2⟩ hg hr => ⟨Keeps.abides h1 hg (by omega) (fun r e => (hr r e).1), h2.abides hg (fun r e => (hr r e).2)⟩)
    (fun _ _ _ _ _ hs _ _ => hs)
    ⟨hG0, hB0⟩
    (fun x => { tmps := #[.string s, .slice A q c, undef, undef, .int .u64 0, .pointer (some ⟨w.heap.size, 0, none⟩), .int .u64 (x.val : Nat), undef, undef, .string s, .func (.func 130) #[] #[.pointer (some ⟨w.heap.size + 1, 0, none⟩)], .int .u64 (x.val : Nat), undef, undef, undef, undef, undef, undef, undef, undef, undef, undef, undef, undef, undef, undef, undef, undef, undef, undef, undef, undef, undef, undef, undef, undef, undef, undef], defers := [] }) ?assign ?body ?done ?stop
  case assign =>
    intro l x W K hK
    gi_wp2
    exact hK
  case body =>
    rintro l pre x W ⟨h1, h2⟩ hpre
    have hx := x.isLt
    have c0 := h2.cell 0
    have f0 := h2.frozen 0
    simp only [List.getElem?_toArray, List.getElem?_cons_zero] at c0
    have HM := Lib.hid (mix_any (accM pre) x.val W (accM_lt pre) hx)
    have HA := Lib.hid (accM_snoc pre x)
    gi_wp2_with (refine ⟨trivial, ?_⟩; gi_at_call 123; refine (CallsIn.inRound l (callsIn_wide.2 HM.out)).mono ?_; rintro e w2 ⟨rfl, rfl⟩)
    refine ⟨KeepsOthers.setCell _ _ _, kpb_set (Nat.le_refl _) (by show w.heap.size ≠ w.heap.size + 1; omega), Keeps.setCell h1 (.inr (Nat.le_refl _)) _, ?_⟩
    rw [HA.out]
    simpa using h2.set_ 0 (.int .u64 (mixN (accM pre) x.val : Nat))
  case done =>
    rintro D ys W hD rfl ⟨h1, h2⟩ hK
    have hacc : accM (wordsF lb) = mixAll 0 (words lb) := by unfold accM; rw [wordsF_val hlB]
    rw [hacc] at h2
    have hls2 : lb.length = s.size := by rw [HLB.out, List.length_map, Array.length_toList]; rfl
    have c0 := h2.cell 0
    have f0 := h2.frozen 0
    simp only [List.getElem?_toArray, List.getElem?_cons_zero] at c0
    have hDw : w.heap.size < D := by omega
    have hqL : q ≤ 1000000000 := by rw [HQ.out]; exact hl
    gi_wp2
    refine ⟨trivial, ?_⟩
    refine (callsIn_wide.2 (mix_any _ _ W (mixAll_lt (by omega) _) (by omega))).mono ?_
    rintro e w2 ⟨rfl, hw2⟩
    rw [← hw2]
    have h3 : Box (W.setCell ⟨w.heap.size, 0, none⟩ (.int .u64 (mixN (mixAll 0 (words lb)) s.size : Nat))) w.heap.size 95 #[.int .u64 (mixN (mixAll 0 (words lb)) s.size : Nat)] := by simpa using h2.set_ 0 (.int .u64 (mixN (mixAll 0 (words lb)) s.size : Nat))
    have g3 : Grew w (W.setCell ⟨w.heap.size, 0, none⟩ (.int .u64 (mixN (mixAll 0 (words lb)) s.size : Nat))) := Keeps.setCell h1 (.inr (Nat.le_refl _)) _
    have k3 : (W.setCell ⟨w.heap.size, 0, none⟩ (.int .u64 (mixN (mixAll 0 (words lb)) s.size : Nat))).heap[D]? = some (.deferred (some [])) := (Below.heap_setCell W _ _ D (by show D ≠ w.heap.size; omega)).trans hK
    have H3 := Lib.hid h3
    have G3 := Lib.hid g3
    have K3 := Lib.hid k3
    clear hw2 w2 h3 g3 k3
    gi_wp2
    generalize W.setCell ⟨w.heap.size, 0, none⟩ (.int .u64 (mixN (mixAll 0 (words lb)) s.size : Nat)) = W3 at *
    have hms : mixN (mixAll 0 (words lb)) s.size = mixN (mixAll 0 (words lb)) lb.length := by rw [hls2]
    rw [hms] at H3 ⊢
    obtain ⟨s1, hs1⟩ : ∃ s1, s1 = mixN (mixAll 0 (words lb)) lb.length := ⟨_, rfl⟩
    have hs1l : s1 < 18446744073709551616 := by rw [hs1]; exact mixN_lt _ _
    rw [← hs1] at H3 ⊢
    have HS1 := Lib.hid hs1
    clear hs1 hms c0 f0 h1 h2 hacc hK hls2
    refine ⟨trivial, ?_⟩
    refine (callsIn_wide.2 (mix_any s1 q W3 hs1l (by omega))).mono ?_
    rintro e w2 ⟨rfl, hw2⟩
    rw [← hw2]
    have h4 : Box (W3.setCell ⟨w.heap.size, 0, none⟩ (.int .u64 (mixN s1 q : Nat))) w.heap.size 95 #[.int .u64 (mixN s1 q : Nat)] := by simpa using H3.out.set_ 0 (.int .u64 (mixN s1 q : Nat))
    have H4 := Lib.hid h4
    have G4 := Lib.hid (show Grew w (W3.setCell ⟨w.heap.size, 0, none⟩ (.int .u64 (mixN s1 q : Nat))) from Keeps.setCell G3.out (.inr (Nat.le_refl _)) _)
    have K4 := Lib.hid (show (W3.setCell ⟨w.heap.size, 0, none⟩ (.int .u64 (mixN s1 q : Nat))).heap[D]? = some (.deferred (some [])) from (Below.heap_setCell W3 _ _ D (by show D ≠ w.heap.size; omega)).trans K3.out)
    have c3 := H3.out.cell 0
    have f3 := H3.out.frozen 0
    simp only [List.getElem?_toArray, List.getElem?_cons_zero] at c3
    clear hw2 w2 h4
    gi_wp2
    generalize W3.setCell ⟨w.heap.size, 0, none⟩ (.int .u64 (mixN s1 q : Nat)) = W4 at *
    have hs2l : mixN s1 q < 18446744073709551616 := mixN_lt _ _
    have hs2e : hashSum lb ws = mixN (mixAll (mixN s1 q) ws) 0 := by unfold hashSum; rw [← HS1.out, HQ.out]
    have HS2 := Lib.hid hs2e
    clear hs2e
    generalize mixN s1 q = s2 at *
    clear c3 f3 H3 G3 K3
    gi_loopw [27] (fun i wr => ∃ j : Nat, j ≤ q ∧ i = .int .i64 (j : Nat) ∧ Box wr w.heap.size 95 #[.int .u64 (mixAll s2 (ws.take j) : Nat)] ∧ Grew w wr ∧ wr.heap[D]? = some (.deferred (some []))) (fun i _ => q - (intOf i).toNat)
    case atStart => exact ⟨0, by omega, rfl, by rw [List.take_zero, mixAll_nil]; exact H4.out, G4.out, K4.out⟩
    case round =>
      clear H4 G4 K4
      obtain ⟨j, hj, rfl, h4, g4, k4⟩ := hrel
      have c4 := h4.cell 0
      have f4 := h4.frozen 0
      simp only [List.getElem?_toArray, List.getElem?_cons_zero] at c4
      have hml := mixAll_lt hs2l (ws.take j)
      have H4 := Lib.hid h4
      have K4 := Lib.hid k4
      clear h4 k4
      by_cases hlt : j < q
      · have hjl : j < ws.length := by rw [← HQ.out]; exact hlt
        obtain ⟨ad, u, rfl, hadb, hu, hcell⟩ := (H.out.grew (Nat.le_refl _) g4).at_ (j := j) (by rw [List.length_map]; exact hjl)
        have hue : u = .int .i64 (toI (ws.getD j 0)) := by
          rw [List.getElem?_map, List.getElem?_eq_getElem hjl] at hu
          rw [List.getD_eq_getElem?_getD, List.getElem?_eq_getElem hjl]
          exact (Option.some.inj hu).symm
        have hxl : ws.getD j 0 < 18446744073709551616 := by
          rw [List.getD_eq_getElem?_getD, List.getElem?_eq_getElem hjl]; exact hw _ (List.getElem_mem _)
        have hst : mixAll s2 (ws.take (j + 1)) = mixN (mixAll s2 (ws.take j)) (ws.getD j 0) := by
          rw [List.take_add_one, List.getElem?_eq_getElem hjl, List.getD_eq_getElem?_getD, List.getElem?_eq_getElem hjl]
          exact mixAll_snoc _ _ _
        rw [hue] at hcell
        have hb1 := toI_back hxl
        have hb2 : toI (ws.getD j 0) % 18446744073709551616 = ((ws.getD j 0 : Nat) : Int) := by rw [← IntKind.wrap_u64]; exact hb1
        have hi2 := toI_I64 hxl
        have HST := Lib.hid hst
        have HM := Lib.hid (mix_any (mixAll s2 (ws.take j)) (ws.getD j 0) wr hml hxl)
        clear hu hue hst hjl
        generalize toI (ws.getD j 0) = y at *
        generalize ws.getD j 0 = x at *
        generalize mixAll s2 (ws.take j) = m at *
        gi_wp2_with (refine ⟨trivial, ?_⟩; gi_at_call 123; refine (callsIn_wide.2 HM.out).mono ?_; rintro e w2 ⟨rfl, rfl⟩)
        go_roundw
        case rel =>
          refine ⟨j + 1, by omega, by go_num, ?_, Keeps.setCell g4 (.inr (Nat.le_refl _)) _, (Below.heap_setCell wr _ _ D (by show D ≠ w.heap.size; omega)).trans K4.out⟩
          rw [HST.out]
          simpa using H4.out.set_ 0 (.int .u64 (mixN m x : Nat))
        case measure => simp [intOf]; omega
      · obtain rfl : j = q := by omega
        have hall : ws.take j = ws := List.take_of_length_le (by rw [← HQ.out]; omega)
        rw [hall] at hml c4
        have HM := Lib.hid (mix_any (mixAll s2 ws) 0 wr hml (by omega))
        clear hall
        gi_wp2_with (refine ⟨trivial, ?_⟩; gi_at_call 123; refine (callsIn_wide.2 HM.out).mono ?_; rintro e w2 ⟨rfl, rfl⟩)
        refine ⟨by simp, .inl ⟨_, _, rfl, run_takeDeferred K4.out, ?_⟩⟩
        refine ⟨_, results_tmp rfl _ _ _, ?_, ?_⟩
        · rw [HS2.out]; rfl
        · exact Keeps.abides g4 (grownBy_putObj' wr D _) (B := W0.heap.size) (by omega) (fun r e => by cases e; exact hD)
  case stop =>
    rintro D c pre W _ _ h _
    exact h.elim
end Go.Proofs.YtjiiiimhegkklaaDoor
namespace Go.Proofs.YtjiiiimhegkklaaDoor
open Go.RowKit Pl

def v64 (x : Nat) : Value := .int .u64 x
theorem slU64 : SlT Tryd.prog 168 95 8 (.int .u64 0) := ⟨Tryd.underlying168, by kernel_rfl, rfl, by decide⟩
set_option maxRecDepth 100000 in
theorem rmix_any (s x : Nat) (w : World) (hs : s < 18446744073709551616) (hx : x < 18446744073709551616) :
    Calls Tryd.prog 129 #[.int .u64 (s : Nat), .int .u64 (x : Nat)] w fun e w' => e = .returned (.int .u64 (mixN s x : Nat)) ∧ w = w' := by
  have h1 := u64_xor_nat s x hs hx
  have hf : bits BinOp.xor IntKind.u64 (((s ^^^ x : Nat) : Int) * 11400714819323198485 % 18446744073709551616) (((s ^^^ x : Nat) : Int) * 11400714819323198485 % 18446744073709551616 / 4294967296) = ((mixN s x : Nat) : Int) := by
    unfold mixN
    generalize s ^^^ x = y
    have e1 : (y : Int) * 11400714819323198485 % 18446744073709551616 = ((y * 11400714819323198485 % 18446744073709551616 : Nat) : Int) := by omega
    rw [e1]
    have hm : y * 11400714819323198485 % 18446744073709551616 < 18446744073709551616 := by omega
    generalize y * 11400714819323198485 % 18446744073709551616 = m at *
    have e2 : (m : Int) / 4294967296 = ((m / 4294967296 : Nat) : Int) := by omega
    rw [e2, u64_xor_nat _ _ hm (by omega)]
  have hu : ∀ z : Int, IntKind.u64.wrap z = z % 18446744073709551616 := fun z => rfl
  have hf2 : bits BinOp.xor IntKind.u64 (IntKind.u64.wrap (((s ^^^ x : Nat) : Int) * 11400714819323198485)) (IntKind.u64.wrap ((IntKind.u64.wrap (((s ^^^ x : Nat) : Int) * 11400714819323198485)).tdiv 4294967296)) = ((mixN s x : Nat) : Int) := by
    rw [← hf, hu, hu]
    generalize ((s ^^^ x : Nat) : Int) * 11400714819323198485 = z
    rw [Int.tdiv_eq_ediv_of_nonneg (by omega)]
    congr 1
    omega
  have HF := Lib.hid hf2
  clear hf hf2 hu
  go_enter Tryd.func129, Tryd.ntmps129
  go_wp2_with fail
  go_ret
  exact ⟨by rw [← HF.out]; rfl, rfl⟩

theorem leN_drop (l : List Nat) (t : Nat) (h : t < l.length) : leN (l.drop t) = l.getD t 0 + 256 * leN (l.drop (t + 1)) := by
  rw [List.drop_eq_getElem_cons h, leN, List.getD_eq_getElem?_getD, List.getElem?_eq_getElem h]
  rfl
theorem chunk_getD (bs : List Nat) (i t : Nat) (ht : t < 8) : (chunk bs i).getD t 0 = bs.getD (8 * i + t) 0 := by
  unfold chunk
  rw [List.getD_eq_getElem?_getD, List.getElem?_take, if_pos ht, List.getElem?_drop, List.getD_eq_getElem?_getD]
theorem leN_drop_lt {bs : List Nat} (h : Bytes bs) (i t : Nat) : leN ((chunk bs i).drop t) < 256 ^ ((chunk bs i).length - t) := by
  have := leN_lt ((chunk bs i).drop t) (fun x hx => chunk_bytes h i x (List.mem_of_mem_drop hx))
  rwa [List.length_drop] at this
theorem pow256_le {k : Nat} (h : k ≤ 8) : 256 ^ k ≤ 18446744073709551616 := by
  have h2 : 256 ^ k ≤ 256 ^ 8 := Nat.pow_le_pow_right (by omega) h
  have h3 : (256 : Nat) ^ 8 = 18446744073709551616 := by decide
  omega
set_option maxHeartbeats 3200000 in
set_option maxRecDepth 100000 in
theorem rwords_any (v : Value) (bs : List Nat) (w : World) (h : Rd w w.heap.size v (bs.map vb)) (hbb : Bytes bs) (hl : bs.length ≤ 1000000) :
    Calls Tryd.prog 118 #[v] w fun e w' => ∃ v', e = .returned v' ∧ Mine w' w.heap.size 95 v' ((words bs).map v64) ∧ Grew w w' := by
  obtain ⟨A, n, c, rfl, hn, hc⟩ := h.form
  rw [List.length_map] at hn
  have hnl : n ≤ 1000000 := by omega
  have HN := Lib.hid hn
  have H := Lib.hid h
  clear hn h
  go_enter Tryd.func118, Tryd.ntmps118
  go_wp2_with fail
  go_loopw [3, 4] (fun a i wr => ∃ (j m : Nat) (A1 : Option Addr) (c1 : Nat), j ≤ nwords bs ∧ i = .int .i64 ((8 * j : Nat) : Int) ∧ a = .slice A1 m c1 ∧ Mine wr w.heap.size 95 (.slice A1 m c1) (((words bs).take j).map v64) ∧ Grew w wr) (fun _ i _ => n + 8 - (intOf i).toNat)
  case atStart => exact ⟨0, 0, none, 0, by omega, rfl, rfl, by rw [List.take_zero]; exact Mine.nil _ _ _, Grew.refl _⟩
  case round =>
    obtain ⟨j, m, A1, c1, hj, rfl, rfl, hM, hG⟩ := hrel
    have hsz := hG.size
    have hjn : j ≤ (n + 7) / 8 := by unfold nwords at hj; rw [HN.out]; exact hj
    by_cases hlt : 8 * j < n
    · have t0 : decide (((8 * j : Nat) : Int) < (n : Int)) = true := by simp; omega
      have hjw : j < nwords bs := by unfold nwords; rw [← HN.out]; omega
      have hcl : (chunk bs j).length = min 8 (n - 8 * j) := by rw [chunk_length, HN.out]
      obtain ⟨L, hL⟩ : ∃ L : Nat, L = (chunk bs j).length := ⟨_, rfl⟩
      rw [← hL] at hcl
      have hL8 : L ≤ 8 := by omega
      have hLn : 8 * j + L ≤ n := by omega
      have HL := Lib.hid hL
      have HCL := Lib.hid hcl
      have HT := Lib.hid (words_take bs j hjw)
      have hml : (((words bs).take j).map v64).length < 1099511627776 := by rw [List.length_map, List.length_take]; omega
      have hr := H.out.grew (Nat.le_refl _) hG
      clear hL hcl hjw hj
      go_wp2_with fail
      all_goals (
        have hcl := HCL.out
        go_loopw [5, 6] (fun a k wq => ∃ (t : Nat) (y : Int), t ≤ L ∧ y + 1 = ((8 * j + t : Nat) : Int) ∧ k = .int .i64 y ∧ a = .int .u64 (leN ((chunk bs j).drop t) : Nat) ∧ wq = wr) (fun _ k _ => (intOf k + 1).toNat)
        case atStart => exact ⟨L, _, Nat.le_refl _, by omega, rfl, by rw [HL.out, List.drop_length]; rfl, rfl⟩
        case round =>
          obtain ⟨t, y, ht, hy, rfl, rfl, rfl⟩ := hrel
          clear hcl
          by_cases h0 : 0 < t
          · obtain ⟨t', rfl⟩ : ∃ t', t = t' + 1 := ⟨t - 1, by omega⟩
            obtain ⟨p, hp⟩ : ∃ p : Nat, p = 8 * j + t' := ⟨_, rfl⟩
            obtain rfl : y = (p : Int) := by omega
            have hpl : p < bs.length := by rw [← HN.out]; omega
            have hpn : p < n := by omega
            obtain ⟨ad, rfl, hadb, hcell⟩ := hr.byte_at hpl
            have t1 : decide ((8 * (j : Int)) ≤ (p : Int)) = true := by simp; omega
            have hle := leN_drop (chunk bs j) t' (by rw [← HL.out]; omega)
            rw [chunk_getD bs j t' (by omega), ← hp] at hle
            have hlt2 := leN_drop_lt hbb j t'
            have hpw := pow256_le (k := (chunk bs j).length - t') (by rw [← HL.out]; omega)
            have hbl : bs.getD p 0 < 256 := getD_byte hbb p
            have HLE := Lib.hid hle
            have hs2 : 256 * leN ((chunk bs j).drop (t' + 1)) + bs.getD p 0 < 18446744073709551616 := by omega
            clear hle hlt2 hpw
            generalize leN ((chunk bs j).drop (t' + 1)) = q at *
            generalize bs.getD p 0 = b at *
            have HP := Lib.hid hp
            have HY := Lib.hid hy
            clear hp hy
            go_wp2_with fail
            have hp := HP.out
            go_roundw
            case rel => exact ⟨t', _, by omega, by omega, rfl, by rw [HLE.out]; congr 1; omega, trivial⟩
            case measure => simp [intOf]
          · obtain rfl : t = 0 := by omega
            have t1 : decide ((8 * (j : Int)) ≤ y) = false := by simp; omega
            have hcv := chunk_lt hbb j
            rw [List.drop_zero]
            generalize leN (chunk bs j) = q at *
            go_wp2_with (at_builtin; refine app_one slU64 rfl (.tmp 32) (.tmp 34) rfl rfl (hM.alloc _) wr.heap.size 1 (.int .u64 (q : Nat)) rfl (Nat.le_refl _) (by simp) (by simp) rfl hml (by simp; omega) ?_; intro r cap w1 hM1 hk1 hr1 hbr1 hlr1)
            go_roundw
            case rel => exact ⟨j + 1, _, _, _, by unfold nwords; rw [← HN.out]; omega, by go_num, rfl, by rw [HT.out, List.map_append]; rw [List.length_map, List.length_take] at hM1; exact hM1, (hG.alloc _).app (hM.alloc _) hk1⟩
            case measure => simp [intOf]; omega)
    · have t0 : decide (((8 * j : Nat) : Int) < (n : Int)) = false := by simp; omega
      have hall : (words bs).take j = words bs := by
        rw [List.take_of_length_le]
        rw [words_length]; unfold nwords; rw [← HN.out]; omega
      rw [hall] at hM
      go_wp2_with fail
      go_ret
      exact ⟨_, rfl, hM, hG⟩
end Go.Proofs.YtjiiiimhegkklaaDoor
