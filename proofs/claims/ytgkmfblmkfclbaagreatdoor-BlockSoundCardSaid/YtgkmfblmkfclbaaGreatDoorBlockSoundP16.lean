/- hash.Bytes: the hash of a label and bytes. -/
import Derived.Test.YtgkmfblmkfclbaaGreatDoorBlockSoundP15
import Derived.Test.YtgkmfblmkfclbaaGreatDoorBlockSoundP06
import Derived.Laws.MakeOwn
namespace Go.Proofs.YtgkmfblmkfclbaaGreatDoor
open Go.RowKit Go.Shelf Pl
attribute [local go_sem] Oper.semAt_some

theorem hashB_eq (lb bs : List Nat) : hashB lb bs = hashSum lb (words bs ++ [bs.length]) := by unfold hashB; rfl
/- one element appended, inside a fence -/
theorem app_oneIn {P : Program} {t e : TypeId} {bytes : Nat} {z : Value} {w : World} {base : Nat} {v : Value} {xs : List Value} {F : Fence} {nF : Nat} {ops : Array Oper} {rest : List Oper} {o : Oper} {a : Act} {Q : Exit → Act → World → Prop} (T : SlT P t e bytes z) (hgd : o.guard = none) (s x : Operand)
    (ho : o.op = .call { callee := .builtin .append, args := #[s, x], argTypes := #[t, t] })
    (hs : a.eval s = v) (hown : Mine w base e v xs) (g c : Nat) (u : Value) (hx : a.eval x = .slice (some ⟨g, 0, none⟩) 1 c) (hc1 : 1 ≤ c) (hg : g < w.heap.size) (hu : w.cell? ⟨g, 0, none⟩ = some u) (h1 : u.oneCell' = true)
    (hn : xs.length < 1099511627776) (hbase : base ≤ w.heap.size)
    (h : ∀ r cap w', Mine w' base e (.slice (some ⟨r, 0, none⟩) (xs.length + 1) cap) (xs ++ [u]) → Keeps (fun i => v.ownBlock = some i) w w' →
      (some r = v.ownBlock ∨ r = w.heap.size) → wpListIn F nF P ops Q rest (a.put o.dst (.slice (some ⟨r, 0, none⟩) (xs.length + 1) cap)) w') : wpListIn F nF P ops Q (o :: rest) a w := by
  have hr : Rd w w.heap.size (.slice (some ⟨g, 0, none⟩) 1 c) [u] := by
    refine ⟨_, c, rfl, hc1, fun _ => ⟨_, rfl, hg, fun j u' hu' => ?_⟩⟩
    match j, hu' with
    | 0, hu' => simp at hu'; subst hu'; simpa [Addr.add] using hu
  refine wpListIn_plain hgd fun K hK => ?_
  obtain ⟨v', w', hrun, h2, h3, h4⟩ := run_app T o.type hown hr (by intro u' hu'; simp at hu'; subst hu'; exact h1) (by simp; omega) hbase
  unfold Oper.wpIn
  refine ⟨by simp [Oper.about, ho, resolve, Target.leads, Sem.run_pure], ?_⟩
  rw [Oper.semAt_plain F _ _ (by rw [ho]; intro c hc'; cases hc')]
  simp [execOp, ho, resolve, invoke, builtin, hs, hx, hrun, Result.andThen]
  rcases h2.form with ⟨_, hh⟩ | ⟨g', cap, cur, rfl, hb, hbox, _⟩
  · simp at hh
  · simp only [List.length_append, List.length_singleton] at h2 h4 ⊢
    refine hK _ _ (h g' cap w' h2 h3 ?_)
    rcases h4 with h4 | h4
    · exact .inl h4
    · right; simpa [Value.ownBlock] using h4

theorem make_words (n : Nat) (hn : n ≤ 1000000000) : ∃ Z : Array Value, Z.size = n / 8 + 2 ∧ ∀ w : World, (Instr.makeSlice 22 (.int .i64 0) (.int .i64 ((n : Int) / 8 + 2))).run Tryz.prog w = .ok (.slice (some ⟨w.heap.size, 0, none⟩) 0 (n / 8 + 2)) (w.alloc (.cells Z 3)) := by
  obtain ⟨i, hi, hz, hs, hby⟩ := info_parts slInt.info
  refine ⟨madeCells (Value.int .i64 0).cells (n / 8 + 2), size_madeCells _ _, fun w => ?_⟩
  have := run_make (P := Tryz.prog) w 22 3 i _ Tryz.underlying22 hi hz .i64 .i64 0 ((n : Int) / 8 + 2) (by omega) (by omega) (by rw [hby]; omega) (by omega)
  rw [hs, Nat.mul_one] at this
  have e : ((n : Int) / 8 + 2).toNat = n / 8 + 2 := by omega
  rw [e] at this
  exact this

set_option maxRecDepth 100000 in
set_option maxHeartbeats 3200000 in
theorem hbytes_any (s : ByteArray) (lb : List Nat) (v : Value) (bs : List Nat) (w : World) (hlb : lb = s.data.toList.map UInt8.toNat) (hlB : Bytes lb) (hls : s.size ≤ 1000000) (h : Rd w w.heap.size v (bs.map vb)) (hbb : Bytes bs) (hl : bs.length ≤ 1000000) :
    Calls Tryz.prog 26 #[.string s, v] w fun e w' => e = .returned (.int .u64 (hashB lb bs : Nat)) ∧ Grew w w' := by
  obtain ⟨A, q, c, rfl, hq, hc⟩ := h.form
  rw [List.length_map] at hq
  have hqL : q ≤ 1000000 := by omega
  have HQ := Lib.hid hq
  have H := Lib.hid h
  clear hq h
  obtain ⟨Z, hZs, hmk⟩ := make_words q (by omega)
  have HZS := Lib.hid hZs
  clear hZs
  refine (callsIn_wide (n := 5)).1 ?_
  refine callsIn_of_wp_marks Tryz.func26 rfl trivial ?_ rfl
  simp only [Tryz.ntmps26, List.size_toArray, List.length_cons, List.length_nil, Nat.reduceAdd, Nat.reduceSub, Array.replicate_succ, Array.replicate_zero, List.push_toArray, List.append_toArray, List.nil_append, List.cons_append]
  gi_wp2_with (refine ⟨trivial, ?_⟩; gi_at_call 51; refine (callsIn_wide.2 (groups_any _ A q c rfl _)).mono ?_; rintro e w' ⟨rfl, rfl⟩)
  have hz0 := ((Box.new w 3 Z).alloc (.cells #[Value.slice (some ⟨w.heap.size, 0, none⟩) 0 (q / 8 + 2)] 22)).alloc (.cells #[Value.slice A q c] 42)
  have hB5 := (Box.new (w.alloc (.cells Z 3)) 22 #[Value.slice (some ⟨w.heap.size, 0, none⟩) 0 (q / 8 + 2)]).alloc (.cells #[Value.slice A q c] 42)
  have hBn := Box.new ((w.alloc (.cells Z 3)).alloc (.cells #[Value.slice (some ⟨w.heap.size, 0, none⟩) 0 (q / 8 + 2)] 22)) 42 #[Value.slice A q c]
  have hG0 : Grew w (((w.alloc (.cells Z 3)).alloc (.cells #[Value.slice (some ⟨w.heap.size, 0, none⟩) 0 (q / 8 + 2)] 22)).alloc (.cells #[Value.slice A q c] 42)) := (((Grew.refl w).alloc _).alloc _).alloc _
  have hsz : (((w.alloc (.cells Z 3)).alloc (.cells #[Value.slice (some ⟨w.heap.size, 0, none⟩) 0 (q / 8 + 2)] 22)).alloc (.cells #[Value.slice A q c] 42)).heap.size = w.heap.size + 3 := by simp
  rw [World.size_alloc] at hB5
  rw [World.size_alloc, World.size_alloc] at hBn
  generalize (((w.alloc (.cells Z 3)).alloc (.cells #[Value.slice (some ⟨w.heap.size, 0, none⟩) 0 (q / 8 + 2)] 22)).alloc (.cells #[Value.slice A q c] 42)) = W0 at *
  have hM0 : Mine W0 w.heap.size 3 (.slice (some ⟨w.heap.size, 0, none⟩) 0 (q / 8 + 2)) ([] : List Value) := Mine.mk' (xs := []) (Nat.le_refl _) hz0 (by simp) (by unfold maxLen; omega) HZS.out (by simp)
  have hR0 := H.out.grew (Nat.le_refl _) hG0
  refine wpIn_rangeFunc_ownF (α := W64) rfl (by omega) (gf := 71) (lb := #[.pointer (some ⟨w.heap.size + 1 + 1, 0, none⟩)]) rfl trivial (enters_of Tryz.func71 (by kernel_rfl) rfl)
    (grp_stops Fence.wide 4 trivial rfl (by omega) (w.heap.size + 1 + 1) w.heap.size A q c bs hbb HQ.out (by omega) W0 (by omega) (by omega) (hBn.cell 0) hR0) (fun h k => h.trans k) (fun W l o o' hl ho _ _ => kpb_put (by omega) (by omega) ho) (Below.refl _ _) (fun _ => rfl)
    (fun pre W => Grew w W ∧ Box W (w.heap.size + 1 + 1) 42 #[.slice A q c] ∧ ∃ v', Box W (w.heap.size + 1) 22 #[v'] ∧ Mine W w.heap.size 3 v' ((pre.map (fun x : W64 => x.val)).map vw))
    (fun _ _ _ => False)
    (fun pre A B row ⟨h1, h2, v', h3, h4⟩ hg hr => ⟨Keeps.abides h1 hg (by omega) (fun r e => (hr r e).1), h2.abides hg (fun r e => (hr r e).2), v', h3.abides hg (fun r e => (hr r e).2), h4.abides hg (fun r e => (hr r e).2)⟩)
    (fun _ _ _ _ _ hs _ _ => hs)
    ⟨hG0, hBn, _, hB5, hM0⟩
    (fun x => { tmps := #[.string s, .slice A q c, undef, undef, .int .u64 0, .pointer (some ⟨w.heap.size + 1, 0, none⟩), .int .u64 (x.val : Nat), .slice A q c, .int .i64 (q : Nat), .int .i64 ((q : Int) / 8), .int .i64 ((q : Int) / 8 + 2), .slice (some ⟨w.heap.size, 0, none⟩) 0 (q / 8 + 2), .slice A q c, .func (.func 71) #[] #[.pointer (some ⟨w.heap.size + 1 + 1, 0, none⟩)], .int .u64 (x.val : Nat), undef, undef, undef, undef, undef, undef, undef, undef, undef, undef, undef, undef], defers := [] }) ?assign ?body ?done ?stop
  case assign =>
    intro l x W K hK
    gi_wp2
    exact hK
  case body =>
    rintro l pre x W ⟨h1, h2, v', h3, h4⟩ hpre
    have hx := x.isLt
    obtain ⟨A', n', c', rfl, -⟩ := h4.slice
    have c0 := h3.cell 0
    simp only [List.getElem?_toArray, List.getElem?_cons_zero] at c0
    have hlt5 := h3.lt
    have hs1 := h1.size
    have hpl : ((pre.map (fun x : W64 => x.val)).map vw).length < 1099511627776 := by
      rw [List.length_map, List.length_map]; unfold nwords at hpre; omega
    have hcv : wrap64 (x.val : Int) = toI x.val := by rw [← IntWalk.i64_left]; exact toI_of hx
    have HCV := Lib.hid hcv
    have HCV2 := Lib.hid (toI_of hx)
    clear hcv
    gi_wp2_with (gi_at_builtin; refine app_oneIn slInt rfl (.tmp 15) (.tmp 18) rfl rfl (h4.alloc _) W.heap.size 1 (.int .i64 (wrap64 (x.val : Int))) rfl (Nat.le_refl _) (by simp) (by simp) rfl hpl (by simp; omega) ?_; intro r cap w1 hM1 hk1 hr1; have hb1 := (h3.alloc _).keep hk1 (fun e => h4.ne_box e h3 (by decide) rfl); have k0 := hb1.cell 0; have e0 := hb1.frozen 0; simp only [List.getElem?_toArray, List.getElem?_cons_zero] at k0; clear c0)
    have hS : Keeps (fun i => i = w.heap.size + 1 ∨ (Value.slice A' n' c').ownBlock = some i) W (w1.setCell ⟨w.heap.size + 1, 0, none⟩ (.slice (some ⟨r, 0, none⟩) (((pre.map (fun x : W64 => x.val)).map vw).length + 1) cap)) :=
      (((Keeps.refl _ W).alloc _).then_ hk1 (fun i _ e => .inr e)).setCell (.inl (.inl rfl)) _
    have hO := Keeps.others hS (fun i o e ho => by
      rcases e with rfl | e
      · have := h3
        unfold Box at this
        rw [this] at ho
        injection ho with ho
        subst ho; rfl
      · rcases h4.form with ⟨hv, _⟩ | ⟨g', cap', cur, hv, _, hbox, _⟩
        · rw [hv] at e; cases e
        · rw [hv] at e
          have : g' = i := by simpa [Value.ownBlock] using e
          subst this
          unfold Box at hbox
          rw [hbox] at ho
          injection ho with ho
          subst ho; rfl)
    have hne5 : ∀ k, (Value.slice A' n' c').ownBlock = some k → w.heap.size ≤ k ∧ k ≠ w.heap.size + 1 + 1 := fun k e => ⟨(h4.lt k e).1, fun e2 => h4.ne_box e h2 (by decide) e2⟩
    have hKp : KpB w.heap.size (w.heap.size + 1 + 1) W (w1.setCell ⟨w.heap.size + 1, 0, none⟩ (.slice (some ⟨r, 0, none⟩) (((pre.map (fun x : W64 => x.val)).map vw).length + 1) cap)) := fun k hk => by
      have h2l := h2.lt
      refine hS.block k (by omega) (fun e => ?_)
      rcases e with e | e
      · omega
      · have := hne5 k e; omega
    have hG2 : Grew w (w1.setCell ⟨w.heap.size + 1, 0, none⟩ (.slice (some ⟨r, 0, none⟩) (((pre.map (fun x : W64 => x.val)).map vw).length + 1) cap)) := Keeps.then_ h1 hS fun i hi e => by
      rcases e with e | e
      · omega
      · have := hne5 i e; omega
    have hM2 : Mine (w1.setCell ⟨w.heap.size + 1, 0, none⟩ (.slice (some ⟨r, 0, none⟩) (((pre.map (fun x : W64 => x.val)).map vw).length + 1) cap)) w.heap.size 3 (.slice (some ⟨r, 0, none⟩) (((pre.map (fun x : W64 => x.val)).map vw).length + 1) cap) (((pre ++ [x]).map (fun x : W64 => x.val)).map vw) := by
      have := hM1.far (p := ⟨w.heap.size + 1, 0, none⟩) (fun e => hM1.ne_box e hb1 (by decide) rfl) (.slice (some ⟨r, 0, none⟩) (((pre.map (fun x : W64 => x.val)).map vw).length + 1) cap)
      rw [HCV.out] at this
      rw [List.map_append, List.map_append]
      exact this
    have hbn2 : Box (w1.setCell ⟨w.heap.size + 1, 0, none⟩ (.slice (some ⟨r, 0, none⟩) (((pre.map (fun x : W64 => x.val)).map vw).length + 1) cap)) (w.heap.size + 1 + 1) 42 #[.slice A q c] := h2.keep hS (fun e => by
      rcases e with e | e
      · omega
      · exact (hne5 _ e).2 rfl)
    have hlen : ((pre.map (fun x : W64 => x.val)).map vw).length = pre.length := by rw [List.length_map, List.length_map]
    rw [hlen] at hO hKp hG2 hM2 hbn2
    refine ⟨hO, hKp, hG2, hbn2, _, ?_, hM2⟩
    simpa using hb1.set_ 0 (.slice (some ⟨r, 0, none⟩) (pre.length + 1) cap)
  case done =>
    rintro D ys W hD rfl ⟨h1, h2, v', h3, h4⟩ hK
    rw [wordsF_val hbb] at h4
    obtain ⟨A', n', c', rfl, -⟩ := h4.slice
    have c0 := h3.cell 0
    simp only [List.getElem?_toArray, List.getElem?_cons_zero] at c0
    have hlt5 := h3.lt
    have hs1 := h1.size
    have hnw : ((words bs).map vw).length < 1099511627776 := by rw [List.length_map, words_length]; unfold nwords; omega
    have hneD : ¬ (Value.slice A' n' c').ownBlock = some D := fun e => by
      rcases h4.form with ⟨hv, _⟩ | ⟨g', cap', cur, hv, _, hbox, _⟩
      · rw [hv] at e; cases e
      · rw [hv] at e
        have : g' = D := by simpa [Value.ownBlock] using e
        subst this
        unfold Box at hbox
        rw [hbox] at hK
        cases hK
    have hDl : D < W.heap.size := by
      rcases Nat.lt_or_ge D W.heap.size with h1 | h1
      · exact h1
      · rw [Array.getElem?_eq_none h1] at hK; cases hK
    have hqi : toI bs.length = (q : Int) := by rw [← HQ.out]; exact toI_small (by omega)
    gi_wp2_with (gi_at_builtin; refine app_oneIn slInt rfl (.tmp 21) (.tmp 24) rfl rfl (h4.alloc _) W.heap.size 1 (.int .i64 (q : Nat)) rfl (Nat.le_refl _) (by simp) (by simp) rfl hnw (by simp; omega) ?_; intro r cap w1 hM1 hk1 hr1)
    have hM2 : Mine w1 w.heap.size 3 (.slice (some ⟨r, 0, none⟩) ((words bs).length + 1) cap) ((words bs ++ [bs.length]).map vw) := by
      rw [List.length_map] at hM1
      rw [List.map_append, List.map_cons, List.map_nil]
      unfold vw at hM1 ⊢
      rw [hqi]
      exact hM1
    have hG1 : Grew w w1 := (h1.alloc _).app (h4.alloc _) hk1
    have hK1 : w1.heap[D]? = some (.deferred (some [])) := (hk1.block D (by rw [World.size_alloc]; omega) hneD).trans ((Below.heap_alloc W _ D hDl).trans hK)
    have hDl1 : D < w1.heap.size := Nat.lt_of_lt_of_le hDl (Nat.le_trans (by rw [World.size_alloc]; omega) hk1.size)
    have HS := Lib.hid (hsum_any s lb _ (words bs ++ [bs.length]) w1 hlb hlB hls hM2.rd (fun x hx => by
      rcases List.mem_append.1 hx with h5 | h5
      · exact words_lt hbb x h5
      · have := List.mem_singleton.1 h5; omega) (by rw [List.length_append, words_length]; unfold nwords; simp; omega))
    have hhb := hashB_eq lb bs
    generalize hashSum lb (words bs ++ [bs.length]) = hv at HS hhb
    have HHB := Lib.hid hhb
    clear hhb
    refine ⟨trivial, ?_⟩
    refine (callsIn_wide.2 HS.out).mono ?_
    rintro e w2 ⟨rfl, g2⟩
    have hK2 : w2.heap[D]? = some (.deferred (some [])) := (g2.block D hDl1 (fun e => e)).trans hK1
    have hG2 := hG1.trans g2
    clear HS
    gi_wp2
    refine ⟨by simp, .inl ⟨_, _, rfl, run_takeDeferred hK2, ?_⟩⟩
    refine ⟨_, results_tmp rfl _ _ _, by rw [HHB.out]; rfl, ?_⟩
    exact Keeps.abides hG2 (grownBy_putObj' w2 D _) (B := W0.heap.size) (by omega) (fun r e => by cases e; exact hD)
  case stop =>
    rintro D c pre W _ _ h _
    exact h.elim
end Go.Proofs.YtgkmfblmkfclbaaGreatDoor
