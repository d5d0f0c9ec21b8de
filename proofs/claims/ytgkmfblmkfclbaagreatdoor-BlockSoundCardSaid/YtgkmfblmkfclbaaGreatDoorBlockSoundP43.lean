/- lossy.Rollup. -/
import Derived.Test.YtgkmfblmkfclbaaGreatDoorBlockSoundP42
import Derived.Test.YtgkmfblmkfclbaaGreatDoorBlockSoundP30
namespace Go.Proofs.YtgkmfblmkfclbaaGreatDoor
open Go.RowKit Pl

theorem wp_app_oneC {o : Oper} {a : Act} {w : World} {K : Act → World → Prop} {Q : Exit → Act → World → Prop} {base : Nat} {v : Value} {cs : List Clm} (s x : Operand)
    (ho : o.op = .call { callee := .builtin .append, args := #[s, x], argTypes := #[29, 29] })
    (hs : a.eval s = v) (hown : MineC w base v cs) (g c : Nat) (d : Clm) (t : TypeId) (hx : a.eval x = .slice (some ⟨g, 0, none⟩) 1 c) (hc1 : 1 ≤ c) (hb : Box w g t (cells4 d).toArray)
    (hn : cs.length < 1099511627776) (hbase : base ≤ w.heap.size)
    (h : ∀ r cap w', MineC w' base (.slice (some ⟨r, 0, none⟩) (cs.length + 1) cap) (cs ++ [d]) → Keeps (fun i => v.ownBlock = some i) w w' →
      (some r = v.ownBlock ∨ r = w.heap.size) → base ≤ r → r < w'.heap.size → K (a.put o.dst (.slice (some ⟨r, 0, none⟩) (cs.length + 1) cap)) w') : o.wp Tryz.prog a w K Q := by
  have hr : RdC w w.heap.size (.slice (some ⟨g, 0, none⟩) 1 c) [d] := by
    refine ⟨_, c, rfl, hc1, fun _ => ⟨_, _, rfl, hb.lt, fun j u hu => ?_⟩⟩
    rw [Nat.zero_add, hb.cell, ← hu, flat_one]
    simp
  obtain ⟨v', w', hrun, h2, h3, h4⟩ := run_appC o.type hown hr (by simp; omega) hbase
  unfold Oper.wp execOp
  simp only [ho, resolve, invoke, builtin, Sem.run_bind, Sem.run_pure, Result.andThen_ok, List.map_toArray, List.map_cons, List.map_nil, hs, hx, hrun]
  rcases h2.form with ⟨_, hh⟩ | ⟨g', cap', cur, rfl, hb, hbox, _⟩
  · simp at hh
  · simp only [List.length_append, List.length_singleton] at h2 h4 ⊢
    refine h g' cap' w' h2 h3 ?_ hb hbox.lt
    rcases h4 with h4 | h4
    · exact .inl h4
    · right; simpa [Value.ownBlock] using h4
set_option maxHeartbeats 12800000 in
set_option maxRecDepth 100000 in
theorem rollup_any (nm : ByteArray) (A : Option Addr) (n c : Nat) (ls : List (ByteArray × ByteArray)) (x : Fin 10 → Int) (v : Value) (cs : List Clm) (wd : Int) (w : World) (hnm : Low nm) (hL : RdL w (.slice A n c) ls) (hls : GoodL ls) (hx : GoodD x) (hr : RdC w w.heap.size v cs) (hv : ∀ c ∈ cs, ValidC x c) (hl : cs.length + spanD x ≤ 4096) (hc : clashB x (spanD x) cs = false) (hb1 : 1 ≤ wd) (hb2 : wd ≤ 4096) :
    Calls Tryz.prog 31 #[vdecl nm (.slice A n c) x, v, .int .i64 wd] w (CompPost x (spanD x) cs w) := by
  have HN := Lib.hid (fun w' (g : Grew w w') => new_ok nm A n c ls x v cs w' hnm (hL.grew g) hls hx ((hr.grew (Nat.le_refl _) g).more g.size) hv (by omega) hc)
  have HF := Lib.hid (fun w' (g : Grew w w') (u : Value) (ds : List Clm) (hu : RdC w' w'.heap.size u ds) (h : ∀ d ∈ ds, Implied (x 7) (spanD x) (boundE x (spanD x) cs) d ∧ ValidC x d) (hdl : ds.length ≤ cs.length + spanD x) => finish_any nm A n c ls x v u cs ds w' hnm (hL.grew g) hls hx ((hr.grew (Nat.le_refl _) g).more g.size) hv hl hc hu h hdl)
  have HRo := Lib.hid (fun (k : Nat) (hk : k ≤ spanD x) => rollS_ok hx (w := wd) (env_40 hx hv hc) k hk)
  have hEl := boundE_len x (spanD x) cs
  have HHX := Lib.hid (fun j hj => env_40 hx hv hc j hj)
  have hs := spanD_le hx
  have f1 := hx.first
  have f2 : x 7 ≤ 1048576 := by have := hx.last; have := hx.last2; omega
  have hbd : Box (w.alloc (.cells (cells12 nm (.slice A n c) x).toArray 27)) w.heap.size 27 (cells12 nm (.slice A n c) x).toArray := Box.new _ _ _
  have hG0 := (Grew.refl w).alloc (.cells (cells12 nm (.slice A n c) x).toArray 27)
  obtain ⟨A1, m1, q1, rfl, hm1, -⟩ := hr.form
  have hml : m1 ≤ 4096 := by omega
  have HM := Lib.hid hm1
  generalize hNN : spanD x = N at *
  obtain ⟨hs1, hs2⟩ := hs
  generalize hEE : boundE x N cs = E at *
  have HEE := Lib.hid hEE
  clear hr hv hc hL hls hx hnm hNN hl hm1 hEE
  rw [vdecl_cells]
  rw [vdecl_cells] at HN HF
  have tq : decide (wd < 1) = false := by simp; omega
  have tq2 : decide (4096 < wd) = false := by simp; omega
  have hw0 : ¬ wd = 0 := by omega
  have HEl := Lib.hid hEl
  clear hEl
  go_enter Tryz.func31, Tryz.ntmps31
  go_upto_region 1 with fail
  generalize w.alloc (.cells (cells12 nm (.slice A n c) x).toArray 27) = w1 at *
  go_wp2_with (refine ldN 27 Tryz.underlying27 rfl (.tmp 3) w.heap.size (cells12 nm (.slice A n c) x) 27 info12 rfl rfl rfl hbd ?_)
  refine (HN.out w1 hG0).mono ?_
  rintro e w2 ⟨B, p, C, q, rfl, r1, r2, k2⟩
  have hb2' := hbd.grew k2
  have hG2 := hG0.trans k2
  clear hbd hG0 HN k2
  unfold venv cells3
  go_upto_region 6 with fail
  have ga := (Grew.refl w2).alloc (.cells #[.int .i64 (x 7), .slice B N p, .slice C N q] 32)
  have e3 : Box (w2.alloc (.cells #[.int .i64 (x 7), .slice B N p, .slice C N q] 32)) w2.heap.size 32 (cells3 (x 7) (.slice B N p) (.slice C N q)).toArray := Box.new _ _ _
  have hb3 := hb2'.grew ga
  have hG3 := hG2.trans ga
  have r3 := (r1.grew ga).rd
  have r4 := (r2.grew ga).rd
  generalize w2.alloc (.cells #[.int .i64 (x 7), .slice B N p, .slice C N q] 32) = w3 at *
  generalize hgg : w2.heap.size = g9 at *
  have HB3 := Lib.hid hb3
  have HE3 := Lib.hid e3
  have HG3 := Lib.hid hG3
  have HR3 := Lib.hid r3
  have HR4 := Lib.hid r4
  clear ga hb2' hG2 r1 r2 hgg hb3 e3 hG3 r3 r4
  have c91 : w3.cell? ⟨g9, 1, none⟩ = some (.slice B N p) := HE3.out.cell 1
  go_wp2_with fail
  clear c91
  go_loopw [11, 33] (fun o i wr => ∃ (j m : Nat) (C : Option Addr) (q2 : Nat) (rs : List Clm), j ≤ N ∧ i = .int .i64 j ∧ o = .slice C m q2 ∧ m = rs.length ∧ m ≤ j ∧ rs = (List.range j).foldl (rollS (x 7) wd E) [] ∧ MineC wr w3.heap.size (.slice C m q2) rs ∧ Grew w3 wr) (fun _ i _ => N - (intOf i).toNat)
  case atStart => exact ⟨0, 0, none, 0, [], by omega, rfl, rfl, rfl, by omega, rfl, MineC.nil _ _, Grew.refl _⟩
  case round =>
    obtain ⟨j, m, C2, q2, rs, hj, rfl, rfl, hm, hmj, hrs, hM, hG⟩ := hrel
    have HMk := Lib.hid hm
    have HRs := Lib.hid hrs
    clear hm hrs
    by_cases hlt : j < N
    · obtain ⟨a1, rfl, _, e1⟩ := (HR3.out.grew (Nat.le_refl _) hG).int_at (j := j) (by rw [HEl.out.1]; exact hlt)
      obtain ⟨a2, rfl, _, e2⟩ := (HR4.out.grew (Nat.le_refl _) hG).int_at (j := j) (by rw [HEl.out.2]; exact hlt)
      have c0 : wr.cell? ⟨g9, 0, none⟩ = some (.int .i64 (x 7)) := (HE3.out.grew hG).cell 0
      have c1 : wr.cell? ⟨g9, 1, none⟩ = some (.slice (some a1) N p) := (HE3.out.grew hG).cell 1
      have c2 : wr.cell? ⟨g9, 2, none⟩ = some (.slice (some a2) N q) := (HE3.out.grew hG).cell 2
      have HSt := Lib.hid (show (List.range (j + 1)).foldl (rollS (x 7) wd E) [] = rollS (x 7) wd E rs j from by rw [HRs.out, List.range_succ, List.foldl_append, List.foldl_cons, List.foldl_nil])
      have HSd := Lib.hid (show rollS (x 7) wd E rs j = if j = 0 ∨ (x 7 + (j : Int)) % wd = 0 then rs ++ [pointC E (x 7 + (j : Int)) j] else rs.dropLast ++ [growC E (rs.getLastD zc) (x 7 + (j : Int)) j] from rfl)
      obtain ⟨lo, hlo⟩ : ∃ lo, E.1.getD j 0 = lo := ⟨_, rfl⟩
      obtain ⟨hi, hhi⟩ : ∃ hi, E.2.getD j 0 = hi := ⟨_, rfl⟩
      rw [hlo] at e1
      rw [hhi] at e2
      have HLo := Lib.hid hlo
      have HHi := Lib.hid hhi
      have i1 : (0 : Int) ≤ (j : Int) := by omega
      have i2 : (j : Int) < (N : Int) := by omega
      have hn5 : rs.length < 1099511627776 := by rw [← HMk.out]; omega
      have HMM := Lib.hid hM
      have HG := Lib.hid hG
      have hs3 := hG.size
      clear hlo hhi hM hG
      have key : (j = 0 ∨ (x 7 + (j : Int)) % wd = 0) ∨ (j ≠ 0 ∧ (x 7 + (j : Int)) % wd ≠ 0) := by
        by_cases h0 : j = 0
        · exact .inl (.inl h0)
        · by_cases h1 : (x 7 + (j : Int)) % wd = 0
          · exact .inl (.inr h1)
          · exact .inr ⟨h0, h1⟩
      rcases key with hk | ⟨h0, h1⟩
      · have HSe := Lib.hid (HSt.out.trans (HSd.out.trans (if_pos hk)))
        clear HSt HSd
        have hk' : ((j : Int) == 0) = true ∨ (((j : Int) == 0) = false ∧ ((x 7 + (j : Int)) % wd == 0) = true) := by
          by_cases h0 : j = 0
          · exact .inl (by rw [beq_iff_eq]; omega)
          · exact .inr ⟨by rw [beq_eq_false_iff_ne]; omega, by rw [beq_iff_eq]; rcases hk with h | h; (exact absurd h h0); exact h⟩
        clear hk
        rcases hk' with t0 | ⟨t0, t1⟩
        all_goals
          go_upto_region 12 with fail
          refine late_region [(14, fun w' => w'.cell? ⟨g9, 1, none⟩ = some (.slice (some a1) N p) ∧ w'.cell? ⟨g9, 2, none⟩ = some (.slice (some a2) N q) ∧ w'.cell? (a1.add j) = some (.int .i64 lo) ∧ w'.cell? (a2.add j) = some (.int .i64 hi))] (by kernel_rfl) (by intro pp hp; obtain rfl := List.mem_singleton.1 hp; exact ⟨c1, c2, e1, e2⟩) ?_
          intro hcl hkn
          refine' take_pure (i := 0) (v := _) rfl (by kernel_rfl) (by kernel_rfl) (by kernel_rfl) hcl hkn (by rfl) (fun _ _ _ h => h) rfl ?_ ?_
          rotate_left
          · intro w'; go_simp; try with_reducible rfl
          clear hcl hkn
          intro hcl hkn
          try simp only [List.getElem_toArray, List.getElem_cons_zero, Act.put, List.setIfInBounds_toArray, List.set_cons_zero, List.set_cons_succ]
          refine' take_pure (i := 1) (v := _) rfl (by kernel_rfl) (by kernel_rfl) (by kernel_rfl) hcl hkn (by rfl) (fun _ _ _ h => h) rfl ?_ ?_
          rotate_left
          · intro w'; go_simp; try with_reducible rfl
          clear hcl hkn
          intro hcl hkn
          try simp only [List.getElem_toArray, List.getElem_cons_zero, List.getElem_cons_succ, Act.put, List.setIfInBounds_toArray, List.set_cons_zero, List.set_cons_succ]
          refine' take_pure (i := 2) (v := _) rfl (by kernel_rfl) (by kernel_rfl) (by kernel_rfl) hcl hkn (by rfl) (fun _ _ _ h => h) rfl ?_ ?_
          rotate_left
          · intro w'; go_simp; try with_reducible rfl
          clear hcl hkn
          intro hcl hkn
          try simp only [List.getElem_toArray, List.getElem_cons_zero, List.getElem_cons_succ, Act.put, List.setIfInBounds_toArray, List.set_cons_zero, List.set_cons_succ]
          refine' take_pure (i := 3) (v := _) rfl (by kernel_rfl) (by kernel_rfl) (by kernel_rfl) hcl hkn (by rfl) (fun _ _ _ h => h) rfl ?_ ?_
          rotate_left
          · intro w'; go_simp; try with_reducible rfl
          clear hcl hkn
          intro hcl hkn
          try simp only [List.getElem_toArray, List.getElem_cons_zero, List.getElem_cons_succ, Act.put, List.setIfInBounds_toArray, List.set_cons_zero, List.set_cons_succ]
          refine' take_loadP [13, 7, 6] 14 _ (i := 4) (v := _) rfl (by kernel_rfl) (by kernel_rfl) (by kernel_rfl) hcl hkn (by rfl) 0 rfl (by kernel_rfl) (fun _ _ _ h => h) rfl ?_ ?_
          rotate_left
          · rintro w' ⟨x1, x2, x3, x4⟩; go_simp; try with_reducible rfl
          clear hcl hkn
          intro hcl hkn
          try simp only [List.getElem_toArray, List.getElem_cons_zero, List.getElem_cons_succ, Act.put, List.setIfInBounds_toArray, List.set_cons_zero, List.set_cons_succ]
          refine' take_pure (i := 5) (v := _) rfl (by kernel_rfl) (by kernel_rfl) (by kernel_rfl) hcl hkn (by rfl) (fun _ _ _ h => h) rfl ?_ ?_
          rotate_left
          · intro w'; go_simp; try with_reducible rfl
          clear hcl hkn
          intro hcl hkn
          try simp only [List.getElem_toArray, List.getElem_cons_zero, List.getElem_cons_succ, Act.put, List.setIfInBounds_toArray, List.set_cons_zero, List.set_cons_succ]
          refine' take_pure (i := 6) (v := _) rfl (by kernel_rfl) (by kernel_rfl) (by kernel_rfl) hcl hkn (by rfl) (fun _ _ _ h => h) rfl ?_ ?_
          rotate_left
          · intro w'; go_simp; try with_reducible rfl
          clear hcl hkn
          intro hcl hkn
          try simp only [List.getElem_toArray, List.getElem_cons_zero, List.getElem_cons_succ, Act.put, List.setIfInBounds_toArray, List.set_cons_zero, List.set_cons_succ]
          refine' take_loadP [13] 14 _ (i := 7) (v := _) rfl (by kernel_rfl) (by kernel_rfl) (by kernel_rfl) hcl hkn (by rfl) 0 rfl (by kernel_rfl) (fun _ _ _ h => h) rfl ?_ ?_
          rotate_left
          · rintro w' ⟨x1, x2, x3, x4⟩; go_simp; try with_reducible rfl
          clear hcl hkn
          intro hcl hkn
          try simp only [List.getElem_toArray, List.getElem_cons_zero, List.getElem_cons_succ, Act.put, List.setIfInBounds_toArray, List.set_cons_zero, List.set_cons_succ]
          refine' take_pure (i := 8) (v := _) rfl (by kernel_rfl) (by kernel_rfl) (by kernel_rfl) hcl hkn (by rfl) (fun _ _ _ h => h) rfl ?_ ?_
          rotate_left
          · intro w'; go_simp; try with_reducible rfl
          clear hcl hkn
          intro hcl hkn
          try simp only [List.getElem_toArray, List.getElem_cons_zero, List.getElem_cons_succ, Act.put, List.setIfInBounds_toArray, List.set_cons_zero, List.set_cons_succ]
          refine' take_loadP [13, 12, 11] 14 _ (i := 9) (v := _) rfl (by kernel_rfl) (by kernel_rfl) (by kernel_rfl) hcl hkn (by rfl) 0 rfl (by kernel_rfl) (fun _ _ _ h => h) rfl ?_ ?_
          rotate_left
          · rintro w' ⟨x1, x2, x3, x4⟩; go_simp; try with_reducible rfl
          clear hcl hkn
          intro hcl hkn
          try simp only [List.getElem_toArray, List.getElem_cons_zero, List.getElem_cons_succ, Act.put, List.setIfInBounds_toArray, List.set_cons_zero, List.set_cons_succ]
          refine' take_pure (i := 10) (v := _) rfl (by kernel_rfl) (by kernel_rfl) (by kernel_rfl) hcl hkn (by rfl) (fun _ _ _ h => h) rfl ?_ ?_
          rotate_left
          · intro w'; go_simp; try with_reducible rfl
          clear hcl hkn
          intro hcl hkn
          try simp only [List.getElem_toArray, List.getElem_cons_zero, List.getElem_cons_succ, Act.put, List.setIfInBounds_toArray, List.set_cons_zero, List.set_cons_succ]
          refine' take_pure (i := 11) (v := _) rfl (by kernel_rfl) (by kernel_rfl) (by kernel_rfl) hcl hkn (by rfl) (fun _ _ _ h => h) rfl ?_ ?_
          rotate_left
          · intro w'; go_simp; try with_reducible rfl
          clear hcl hkn
          intro hcl hkn
          try simp only [List.getElem_toArray, List.getElem_cons_zero, List.getElem_cons_succ, Act.put, List.setIfInBounds_toArray, List.set_cons_zero, List.set_cons_succ]
          refine' take_loadP [13] 14 _ (i := 12) (v := _) rfl (by kernel_rfl) (by kernel_rfl) (by kernel_rfl) hcl hkn (by rfl) 0 rfl (by kernel_rfl) (fun _ _ _ h => h) rfl ?_ ?_
          rotate_left
          · rintro w' ⟨x1, x2, x3, x4⟩; go_simp; try with_reducible rfl
          clear hcl hkn
          intro hcl hkn
          try simp only [List.getElem_toArray, List.getElem_cons_zero, List.getElem_cons_succ, Act.put, List.setIfInBounds_toArray, List.set_cons_zero, List.set_cons_succ]
          refine' take_pure (i := 13) (v := _) rfl (by kernel_rfl) (by kernel_rfl) (by kernel_rfl) hcl hkn (by rfl) (fun _ _ _ h => h) rfl ?_ ?_
          rotate_left
          · intro w'; go_simp; try with_reducible rfl
          clear hcl hkn
          intro hcl hkn
          try simp only [List.getElem_toArray, List.getElem_cons_zero, List.getElem_cons_succ, Act.put, List.setIfInBounds_toArray, List.set_cons_zero, List.set_cons_succ]
          refine one_next hcl (i := 14) (by kernel_rfl) rfl rfl (fun K hK => ?_)
          go_simp
          refine hK _ _ (known_one (.inl (by kernel_rfl))) ?_
          clear hK K hcl hkn
          intro hcl hkn
          try simp only [List.getElem_toArray, List.getElem_cons_zero, List.getElem_cons_succ, Act.put, List.setIfInBounds_toArray, List.set_cons_zero, List.set_cons_succ]
          refine one_next hcl (i := 15) (by kernel_rfl) rfl rfl (fun K hK => ?_)
          refine wp_app_oneC (base := w3.heap.size) (cs := rs) (.tmp 48) (.tmp 62) rfl rfl ?_ wr.heap.size 1 ((x 7 + (j : Int), x 7 + (j : Int), lo, hi) : Clm) 82 rfl (Nat.le_refl _) ?_ hn5 ?_ ?_
          · first | exact HMM.out.alloc _ | exact (HMM.out.alloc _).grew (Keeps.drew (Grew.refl _)) | exact MineC.alloc (HMM.out.grew (Keeps.drew (Grew.refl _))) _
          · first | exact Box.new _ _ _ | exact Box.drew (Box.new _ _ _)
          · first | (simp; omega) | (have := hs3; simp; omega)
          intro r7 cap7 w7 hM7 hk7 hr7 hbr7 hlr7
          have hG7 : Grew w3 w7 := Grew.appC (w := ((wr.alloc (.cells (cells4 ((x 7 + (j : Int), x 7 + (j : Int), lo, hi) : Clm)).toArray 82)).drew)) (Keeps.drew (HG.out.alloc _)) ((HMM.out.alloc _).grew (Keeps.drew (Grew.refl _))) hk7
          rw [← HMk.out] at hM7 ⊢
          have HM7 := Lib.hid hM7
          have HG7 := Lib.hid hG7
          clear hM7 hG7 hk7 hr7 hbr7 hlr7
          refine hK _ _ (known_one (.inl (by kernel_rfl))) ?_
          clear hK K hcl hkn
          intro hcl hkn
          try simp only [List.getElem_toArray, List.getElem_cons_zero, List.getElem_cons_succ, Act.put, List.setIfInBounds_toArray, List.set_cons_zero, List.set_cons_succ]
          refine one_next hcl (i := 16) (by kernel_rfl) rfl rfl (fun K hK => ?_)
          go_simp
          refine hK _ _ (known_one (.inl (by kernel_rfl))) ?_
          clear hK K hcl hkn
          intro hcl hkn
          try simp only [List.getElem_toArray, List.getElem_cons_zero, List.getElem_cons_succ, Act.put, List.setIfInBounds_toArray, List.set_cons_zero, List.set_cons_succ]
          refine all_done (by kernel_rfl) ?_ _
          clear hcl hkn
          go_wp2_with fail
          go_roundw
          · exact ⟨j + 1, m + 1, _, cap7, rs ++ [pointC E (x 7 + (j : Int)) j], by omega, by go_num, rfl, by rw [List.length_append, HMk.out]; rfl, by omega, HSe.out.symm, by unfold pointC; rw [HLo.out, HHi.out]; exact HM7.out, HG7.out⟩
          · simp [intOf]; omega
      · have HSe := Lib.hid (HSt.out.trans (HSd.out.trans (if_neg (by omega))))
        have t0 : ((j : Int) == 0) = false := by rw [beq_eq_false_iff_ne]; omega
        have t1 : ((x 7 + (j : Int)) % wd == 0) = false := by rw [beq_eq_false_iff_ne]; exact h1
        clear HSt HSd h1
        rcases nil_or_last rs with rfl | ⟨ys, y, rfl⟩
        · exact absurd (show j = 0 from by have := (HRo.out j (by omega)).2; rcases Nat.eq_zero_or_pos j with h | h; (exact h); (obtain ⟨us, u, e, -⟩ := this h; rw [← HRs.out] at e; simp at e)) h0
        obtain ⟨pp, hpp⟩ : ∃ pp, pp = ys.length := ⟨_, rfl⟩
        obtain rfl : m = pp + 1 := by have := HMk.out; simp at this; omega
        obtain ⟨g, rfl, hgb, hgl⟩ := HMM.out.some_ (by simp)
        have HPP := Lib.hid hpp
        obtain ⟨y0, y1, y2, y3⟩ := HMM.out.at_ (j := pp) (by simp; omega)
        rw [hpp, getD_last, ← hpp] at y0 y1 y2 y3
        have z1 := HMM.out.free (pp * 4 + 1)
        have z2 := HMM.out.free (pp * 4 + 2)
        have z3 := HMM.out.free (pp * 4 + 3)
        have u1 : g ≠ g9 := HMM.out.ne_box rfl (HE3.out.grew HG.out) (by decide)
        have u2 : a1.block ≠ g := by omega
        have u3 : a2.block ≠ g := by omega
        have u1' := u1.symm
        have u2' := u2.symm
        have u3' := u3.symm
        have fa1 : ∀ (W : World) (k : Nat) (u : Value), (W.setCell ⟨g, k, none⟩ u).cell? (a1.add j) = W.cell? (a1.add j) := fun W k u => World.cell?_of_block (Below.heap_setCell W ⟨g, k, none⟩ u _ (by rw [block_add]; exact u2))
        have fa2 : ∀ (W : World) (k : Nat) (u : Value), (W.setCell ⟨g, k, none⟩ u).cell? (a2.add j) = W.cell? (a2.add j) := fun W k u => World.cell?_of_block (Below.heap_setCell W ⟨g, k, none⟩ u _ (by rw [block_add]; exact u3))
        clear hpp
        go_upto_region 14 with fail
        refine late_region [(29, fun w' => w'.cell? ⟨g9, 1, none⟩ = some (.slice (some a1) N p) ∧ w'.cell? (a1.add j) = some (.int .i64 lo) ∧ w'.cell? ⟨g, pp * 4 + 2, none⟩ = some (.int .i64 y.2.2.1)), (32, fun w' => w'.cell? ⟨g9, 2, none⟩ = some (.slice (some a2) N q) ∧ w'.cell? (a2.add j) = some (.int .i64 hi) ∧ w'.cell? ⟨g, pp * 4 + 3, none⟩ = some (.int .i64 y.2.2.2))] (by kernel_rfl) (by intro qq hq; simp at hq; rcases hq with rfl | rfl; (exact ⟨c1, e1, y2⟩); exact ⟨c2, e2, y3⟩) ?_
        intro hcl hkn
        refine' take_pure (i := 0) (v := _) rfl (by kernel_rfl) (by kernel_rfl) (by kernel_rfl) hcl hkn (by rfl) (fun _ _ _ h => h) rfl ?_ ?_
        rotate_left
        · intro w'; go_simp; try with_reducible rfl
        clear hcl hkn
        intro hcl hkn
        try simp only [List.getElem_toArray, List.getElem_cons_zero, Act.put, List.setIfInBounds_toArray, List.set_cons_zero, List.set_cons_succ]
        refine' take_pure (i := 1) (v := _) rfl (by kernel_rfl) (by kernel_rfl) (by kernel_rfl) hcl hkn (by rfl) (fun _ _ _ h => h) rfl ?_ ?_
        rotate_left
        · intro w'; go_simp; try with_reducible rfl
        clear hcl hkn
        intro hcl hkn
        try simp only [List.getElem_toArray, List.getElem_cons_zero, List.getElem_cons_succ, Act.put, List.setIfInBounds_toArray, List.set_cons_zero, List.set_cons_succ]
        refine' take_pure (i := 2) (v := _) rfl (by kernel_rfl) (by kernel_rfl) (by kernel_rfl) hcl hkn (by rfl) (fun _ _ _ h => h) rfl ?_ ?_
        rotate_left
        · intro w'; go_simp; try with_reducible rfl
        clear hcl hkn
        intro hcl hkn
        try simp only [List.getElem_toArray, List.getElem_cons_zero, List.getElem_cons_succ, Act.put, List.setIfInBounds_toArray, List.set_cons_zero, List.set_cons_succ]
        refine' take_pure (i := 3) (v := _) rfl (by kernel_rfl) (by kernel_rfl) (by kernel_rfl) hcl hkn (by rfl) (fun _ _ _ h => h) rfl ?_ ?_
        rotate_left
        · intro w'; go_simp; try with_reducible rfl
        clear hcl hkn
        intro hcl hkn
        try simp only [List.getElem_toArray, List.getElem_cons_zero, List.getElem_cons_succ, Act.put, List.setIfInBounds_toArray, List.set_cons_zero, List.set_cons_succ]
        refine' take_pure (i := 4) (v := _) rfl (by kernel_rfl) (by kernel_rfl) (by kernel_rfl) hcl hkn (by rfl) (fun _ _ _ h => h) rfl ?_ ?_
        rotate_left
        · intro w'; go_simp; try with_reducible rfl
        clear hcl hkn
        intro hcl hkn
        try simp only [List.getElem_toArray, List.getElem_cons_zero, List.getElem_cons_succ, Act.put, List.setIfInBounds_toArray, List.set_cons_zero, List.set_cons_succ]
        refine' take_pure (i := 5) (v := _) rfl (by kernel_rfl) (by kernel_rfl) (by kernel_rfl) hcl hkn (by rfl) (fun _ _ _ h => h) rfl ?_ ?_
        rotate_left
        · intro w'; go_simp; try with_reducible rfl
        clear hcl hkn
        intro hcl hkn
        try simp only [List.getElem_toArray, List.getElem_cons_zero, List.getElem_cons_succ, Act.put, List.setIfInBounds_toArray, List.set_cons_zero, List.set_cons_succ]
        refine' take_pure (i := 6) (v := _) rfl (by kernel_rfl) (by kernel_rfl) (by kernel_rfl) hcl hkn (by rfl) (fun _ _ _ h => h) rfl ?_ ?_
        rotate_left
        · intro w'; go_simp; try with_reducible rfl
        clear hcl hkn
        intro hcl hkn
        try simp only [List.getElem_toArray, List.getElem_cons_zero, List.getElem_cons_succ, Act.put, List.setIfInBounds_toArray, List.set_cons_zero, List.set_cons_succ]
        refine' take_load 29 _ (i := 7) (v := _) rfl (by kernel_rfl) (by kernel_rfl) (by kernel_rfl) hcl hkn (by rfl) 0 rfl (by kernel_rfl) (fun _ _ _ h => h) rfl ?_ ?_
        rotate_left
        · rintro w' ⟨x1, x2, x3⟩; go_simp; try with_reducible rfl
        clear hcl hkn
        intro hcl hkn
        try simp only [List.getElem_toArray, List.getElem_cons_zero, List.getElem_cons_succ, Act.put, List.setIfInBounds_toArray, List.set_cons_zero, List.set_cons_succ]
        refine' take_pure (i := 8) (v := _) rfl (by kernel_rfl) (by kernel_rfl) (by kernel_rfl) hcl hkn (by rfl) (fun _ _ _ h => h) rfl ?_ ?_
        rotate_left
        · intro w'; go_simp; try with_reducible rfl
        clear hcl hkn
        intro hcl hkn
        try simp only [List.getElem_toArray, List.getElem_cons_zero, List.getElem_cons_succ, Act.put, List.setIfInBounds_toArray, List.set_cons_zero, List.set_cons_succ]
        refine' take_load 29 _ (i := 9) (v := _) rfl (by kernel_rfl) (by kernel_rfl) (by kernel_rfl) hcl hkn (by rfl) 0 rfl (by kernel_rfl) (fun _ _ _ h => h) rfl ?_ ?_
        rotate_left
        · rintro w' ⟨x1, x2, x3⟩; go_simp; try with_reducible rfl
        clear hcl hkn
        intro hcl hkn
        try simp only [List.getElem_toArray, List.getElem_cons_zero, List.getElem_cons_succ, Act.put, List.setIfInBounds_toArray, List.set_cons_zero, List.set_cons_succ]
        refine' take_pure (i := 10) (v := _) rfl (by kernel_rfl) (by kernel_rfl) (by kernel_rfl) hcl hkn (by rfl) (fun _ _ _ h => h) rfl ?_ ?_
        rotate_left
        · intro w'; go_simp; try with_reducible rfl
        clear hcl hkn
        intro hcl hkn
        try simp only [List.getElem_toArray, List.getElem_cons_zero, List.getElem_cons_succ, Act.put, List.setIfInBounds_toArray, List.set_cons_zero, List.set_cons_succ]
        refine' take_pure (i := 11) (v := _) rfl (by kernel_rfl) (by kernel_rfl) (by kernel_rfl) hcl hkn (by rfl) (fun _ _ _ h => h) rfl ?_ ?_
        rotate_left
        · intro w'; go_simp; try with_reducible rfl
        clear hcl hkn
        intro hcl hkn
        try simp only [List.getElem_toArray, List.getElem_cons_zero, List.getElem_cons_succ, Act.put, List.setIfInBounds_toArray, List.set_cons_zero, List.set_cons_succ]
        refine' take_load 29 _ (i := 12) (v := _) rfl (by kernel_rfl) (by kernel_rfl) (by kernel_rfl) hcl hkn (by rfl) 0 rfl (by kernel_rfl) (fun _ _ _ h => h) rfl ?_ ?_
        rotate_left
        · rintro w' ⟨x1, x2, x3⟩; go_simp; try with_reducible rfl
        clear hcl hkn
        intro hcl hkn
        try simp only [List.getElem_toArray, List.getElem_cons_zero, List.getElem_cons_succ, Act.put, List.setIfInBounds_toArray, List.set_cons_zero, List.set_cons_succ]
        refine' take_pure (i := 13) (v := _) rfl (by kernel_rfl) (by kernel_rfl) (by kernel_rfl) hcl hkn (by rfl) (fun _ _ _ h => h) rfl ?_ ?_
        rotate_left
        · intro w'; go_simp; try with_reducible rfl
        clear hcl hkn
        intro hcl hkn
        try simp only [List.getElem_toArray, List.getElem_cons_zero, List.getElem_cons_succ, Act.put, List.setIfInBounds_toArray, List.set_cons_zero, List.set_cons_succ]
        refine' take_pure (i := 14) (v := _) rfl (by kernel_rfl) (by kernel_rfl) (by kernel_rfl) hcl hkn (by rfl) (fun _ _ _ h => h) rfl ?_ ?_
        rotate_left
        · intro w'; go_simp; try with_reducible rfl
        clear hcl hkn
        intro hcl hkn
        try simp only [List.getElem_toArray, List.getElem_cons_zero, List.getElem_cons_succ, Act.put, List.setIfInBounds_toArray, List.set_cons_zero, List.set_cons_succ]
        refine' take_pure (i := 15) (v := _) rfl (by kernel_rfl) (by kernel_rfl) (by kernel_rfl) hcl hkn (by rfl) (fun _ _ _ h => h) rfl ?_ ?_
        rotate_left
        · intro w'; go_simp; try with_reducible rfl
        clear hcl hkn
        intro hcl hkn
        try simp only [List.getElem_toArray, List.getElem_cons_zero, List.getElem_cons_succ, Act.put, List.setIfInBounds_toArray, List.set_cons_zero, List.set_cons_succ]
        refine' take_pure (i := 16) (v := _) rfl (by kernel_rfl) (by kernel_rfl) (by kernel_rfl) hcl hkn (by rfl) (fun _ _ _ h => h) rfl ?_ ?_
        rotate_left
        · intro w'; go_simp; try with_reducible rfl
        clear hcl hkn
        intro hcl hkn
        try simp only [List.getElem_toArray, List.getElem_cons_zero, List.getElem_cons_succ, Act.put, List.setIfInBounds_toArray, List.set_cons_zero, List.set_cons_succ]
        refine' take_load 32 _ (i := 17) (v := _) rfl (by kernel_rfl) (by kernel_rfl) (by kernel_rfl) hcl hkn (by rfl) 1 rfl (by kernel_rfl) (fun _ _ _ h => h) rfl ?_ ?_
        rotate_left
        · rintro w' ⟨x1, x2, x3⟩; go_simp; try with_reducible rfl
        clear hcl hkn
        intro hcl hkn
        try simp only [List.getElem_toArray, List.getElem_cons_zero, List.getElem_cons_succ, Act.put, List.setIfInBounds_toArray, List.set_cons_zero, List.set_cons_succ]
        refine' take_pure (i := 18) (v := _) rfl (by kernel_rfl) (by kernel_rfl) (by kernel_rfl) hcl hkn (by rfl) (fun _ _ _ h => h) rfl ?_ ?_
        rotate_left
        · intro w'; go_simp; try with_reducible rfl
        clear hcl hkn
        intro hcl hkn
        try simp only [List.getElem_toArray, List.getElem_cons_zero, List.getElem_cons_succ, Act.put, List.setIfInBounds_toArray, List.set_cons_zero, List.set_cons_succ]
        refine' take_load 32 _ (i := 19) (v := _) rfl (by kernel_rfl) (by kernel_rfl) (by kernel_rfl) hcl hkn (by rfl) 1 rfl (by kernel_rfl) (fun _ _ _ h => h) rfl ?_ ?_
        rotate_left
        · rintro w' ⟨x1, x2, x3⟩; go_simp; try with_reducible rfl
        clear hcl hkn
        intro hcl hkn
        try simp only [List.getElem_toArray, List.getElem_cons_zero, List.getElem_cons_succ, Act.put, List.setIfInBounds_toArray, List.set_cons_zero, List.set_cons_succ]
        refine' take_pure (i := 20) (v := _) rfl (by kernel_rfl) (by kernel_rfl) (by kernel_rfl) hcl hkn (by rfl) (fun _ _ _ h => h) rfl ?_ ?_
        rotate_left
        · intro w'; go_simp; try with_reducible rfl
        clear hcl hkn
        intro hcl hkn
        try simp only [List.getElem_toArray, List.getElem_cons_zero, List.getElem_cons_succ, Act.put, List.setIfInBounds_toArray, List.set_cons_zero, List.set_cons_succ]
        refine' take_pure (i := 21) (v := _) rfl (by kernel_rfl) (by kernel_rfl) (by kernel_rfl) hcl hkn (by rfl) (fun _ _ _ h => h) rfl ?_ ?_
        rotate_left
        · intro w'; go_simp; try with_reducible rfl
        clear hcl hkn
        intro hcl hkn
        try simp only [List.getElem_toArray, List.getElem_cons_zero, List.getElem_cons_succ, Act.put, List.setIfInBounds_toArray, List.set_cons_zero, List.set_cons_succ]
        refine' take_load 32 _ (i := 22) (v := _) rfl (by kernel_rfl) (by kernel_rfl) (by kernel_rfl) hcl hkn (by rfl) 1 rfl (by kernel_rfl) (fun _ _ _ h => h) rfl ?_ ?_
        rotate_left
        · rintro w' ⟨x1, x2, x3⟩; go_simp; try with_reducible rfl
        clear hcl hkn
        intro hcl hkn
        try simp only [List.getElem_toArray, List.getElem_cons_zero, List.getElem_cons_succ, Act.put, List.setIfInBounds_toArray, List.set_cons_zero, List.set_cons_succ]
        refine' take_pure (i := 23) (v := _) rfl (by kernel_rfl) (by kernel_rfl) (by kernel_rfl) hcl hkn (by rfl) (fun _ _ _ h => h) rfl ?_ ?_
        rotate_left
        · intro w'; go_simp; try with_reducible rfl
        clear hcl hkn
        intro hcl hkn
        try simp only [List.getElem_toArray, List.getElem_cons_zero, List.getElem_cons_succ, Act.put, List.setIfInBounds_toArray, List.set_cons_zero, List.set_cons_succ]
        refine' take_pure (i := 24) (v := _) rfl (by kernel_rfl) (by kernel_rfl) (by kernel_rfl) hcl hkn (by rfl) (fun _ _ _ h => h) rfl ?_ ?_
        rotate_left
        · intro w'; go_simp; try with_reducible rfl
        clear hcl hkn
        intro hcl hkn
        try simp only [List.getElem_toArray, List.getElem_cons_zero, List.getElem_cons_succ, Act.put, List.setIfInBounds_toArray, List.set_cons_zero, List.set_cons_succ]
        refine' take_pure (i := 25) (v := _) rfl (by kernel_rfl) (by kernel_rfl) (by kernel_rfl) hcl hkn (by rfl) (fun _ _ _ h => h) rfl ?_ ?_
        rotate_left
        · intro w'; go_simp; try with_reducible rfl
        clear hcl hkn
        intro hcl hkn
        try simp only [List.getElem_toArray, List.getElem_cons_zero, List.getElem_cons_succ, Act.put, List.setIfInBounds_toArray, List.set_cons_zero, List.set_cons_succ]
        refine one_next hcl (i := 26) (by kernel_rfl) rfl rfl (fun K hK => ?_)
        go_simp
        refine hK _ _ (known_two (.inr ⟨by go_simp, by go_simp, by go_simp⟩) (.inr ⟨by go_simp, by go_simp, by go_simp⟩)) ?_
        clear hK K hcl hkn
        intro hcl hkn
        try simp only [List.getElem_toArray, List.getElem_cons_zero, List.getElem_cons_succ, Act.put, List.setIfInBounds_toArray, List.set_cons_zero, List.set_cons_succ]
        refine one_next hcl (i := 27) (by kernel_rfl) rfl rfl (fun K hK => ?_)
        go_simp
        refine hK _ _ (known_two (.inr ⟨by go_simp, by go_simp, by go_simp⟩) (.inr ⟨by go_simp, by go_simp, by go_simp⟩)) ?_
        clear hK K hcl hkn
        intro hcl hkn
        try simp only [List.getElem_toArray, List.getElem_cons_zero, List.getElem_cons_succ, Act.put, List.setIfInBounds_toArray, List.set_cons_zero, List.set_cons_succ]
        refine one_next hcl (i := 28) (by kernel_rfl) rfl rfl (fun K hK => ?_)
        go_simp
        refine hK _ _ (known_two (.inr ⟨by go_simp, by go_simp, by go_simp⟩) (.inr ⟨by go_simp, by go_simp, by go_simp⟩)) ?_
        clear hK K hcl hkn
        intro hcl hkn
        try simp only [List.getElem_toArray, List.getElem_cons_zero, List.getElem_cons_succ, Act.put, List.setIfInBounds_toArray, List.set_cons_zero, List.set_cons_succ]
        refine one_next hcl (i := 29) (by kernel_rfl) rfl rfl (fun K hK => ?_)
        go_simp
        refine hK _ _ (known_two (.inl (by kernel_rfl)) (.inr ⟨by go_simp, by go_simp, by go_simp⟩)) ?_
        clear hK K hcl hkn
        intro hcl hkn
        try simp only [List.getElem_toArray, List.getElem_cons_zero, List.getElem_cons_succ, Act.put, List.setIfInBounds_toArray, List.set_cons_zero, List.set_cons_succ]
        refine one_next hcl (i := 30) (by kernel_rfl) rfl rfl (fun K hK => ?_)
        go_simp
        refine hK _ _ (known_two (.inl (by kernel_rfl)) (.inr ⟨by go_simp, by go_simp, by go_simp⟩)) ?_
        clear hK K hcl hkn
        intro hcl hkn
        try simp only [List.getElem_toArray, List.getElem_cons_zero, List.getElem_cons_succ, Act.put, List.setIfInBounds_toArray, List.set_cons_zero, List.set_cons_succ]
        refine one_next hcl (i := 31) (by kernel_rfl) rfl rfl (fun K hK => ?_)
        go_simp
        refine hK _ _ (known_two (.inl (by kernel_rfl)) (.inr ⟨by go_simp, by go_simp, by go_simp⟩)) ?_
        clear hK K hcl hkn
        intro hcl hkn
        try simp only [List.getElem_toArray, List.getElem_cons_zero, List.getElem_cons_succ, Act.put, List.setIfInBounds_toArray, List.set_cons_zero, List.set_cons_succ]
        refine one_next hcl (i := 32) (by kernel_rfl) rfl rfl (fun K hK => ?_)
        go_simp
        refine hK _ _ (known_two (.inl (by kernel_rfl)) (.inl (by kernel_rfl))) ?_
        clear hK K hcl hkn
        intro hcl hkn
        try simp only [List.getElem_toArray, List.getElem_cons_zero, List.getElem_cons_succ, Act.put, List.setIfInBounds_toArray, List.set_cons_zero, List.set_cons_succ]
        refine all_done (by kernel_rfl) ?_ _
        clear hcl hkn
        try rw [min_if]
        try rw [max_if]
        have P1 := HMM.out.put (j := pp) (k := 1) (by have := HPP.out; simp; omega) (by omega) (x 7 + (j : Int))
        rw [HPP.out, getD_last, set_last] at P1
        have P2 := P1.put (j := ys.length) (k := 2) (by simp) (by omega) (min y.2.2.1 lo)
        rw [getD_last, set_last] at P2
        have P3 := P2.put (j := ys.length) (k := 3) (by simp) (by omega) (max y.2.2.2 hi)
        rw [getD_last, set_last, ← HPP.out] at P3
        have HM7 := Lib.hid (show MineC (((wr.setCell ⟨g, pp * 4 + 1, none⟩ (.int .i64 (x 7 + (j : Int)))).setCell ⟨g, pp * 4 + 2, none⟩ (.int .i64 (min y.2.2.1 lo))).setCell ⟨g, pp * 4 + 3, none⟩ (.int .i64 (max y.2.2.2 hi))).drew w3.heap.size (.slice (some ⟨g, 0, none⟩) (pp + 1) q2) (ys ++ [growC E y (x 7 + (j : Int)) j]) from by
          unfold growC
          rw [HLo.out, HHi.out]
          exact P3.grew (Keeps.drew (Grew.refl _)))
        have HG7 := Lib.hid (show Grew w3 (((wr.setCell ⟨g, pp * 4 + 1, none⟩ (.int .i64 (x 7 + (j : Int)))).setCell ⟨g, pp * 4 + 2, none⟩ (.int .i64 (min y.2.2.1 lo))).setCell ⟨g, pp * 4 + 3, none⟩ (.int .i64 (max y.2.2.2 hi))).drew from Keeps.drew (Keeps.setCell (Keeps.setCell (Keeps.setCell HG.out (p := ⟨g, pp * 4 + 1, none⟩) (.inr hgb) _) (p := ⟨g, pp * 4 + 2, none⟩) (.inr hgb) _) (p := ⟨g, pp * 4 + 3, none⟩) (.inr hgb) _))
        generalize (((wr.setCell ⟨g, pp * 4 + 1, none⟩ (.int .i64 (x 7 + (j : Int)))).setCell ⟨g, pp * 4 + 2, none⟩ (.int .i64 (min y.2.2.1 lo))).setCell ⟨g, pp * 4 + 3, none⟩ (.int .i64 (max y.2.2.2 hi))).drew = w8 at *
        clear P1 P2 P3 y0 y1 y2 y3 z1 z2 z3 e1 e2 c0 c1 c2
        go_wp2_with fail
        go_roundw
        case rel => exact ⟨j + 1, pp + 1, _, q2, _, by omega, by go_num, rfl, by have := HPP.out; simp; omega, by omega, by rw [HSe.out]; simp, HM7.out, HG7.out⟩
        case measure => simp [intOf]; omega
    · obtain rfl : j = N := by omega
      have hR := HRo.out j (Nat.le_refl _)
      rw [← HRs.out] at hR
      have HFn := Lib.hid (HF.out wr (HG3.out.trans hG) _ rs hM.rd hR.1 (by rw [← HMk.out]; omega))
      have HG := Lib.hid (HG3.out.trans hG)
      have hB9 := HB3.out.grew hG
      clear hM hG hR hlt
      go_wp2_with (refine ldN 27 Tryz.underlying27 rfl (.tmp 3) w.heap.size (cells12 nm (.slice A n c) x) 27 info12 rfl rfl rfl hB9 ?_)
      refine HFn.out.mono ?_
      intro e w6 h6
      have h6' := h6.from_ HG.out
      obtain ⟨A6, m6, c6, g6, rfl⟩ := h6'.form
      have HR6 := Lib.hid h6'
      clear h6 h6' HFn hB9
      go_wp2_with fail
      exact bodyPost_ret (v := .tuple #[.slice A6 m6 c6, .int .i64 g6, .int .i64 0]) (by simp [results, Tryz.results31, go_sem]) rfl HR6.out
end Go.Proofs.YtgkmfblmkfclbaaGreatDoor
