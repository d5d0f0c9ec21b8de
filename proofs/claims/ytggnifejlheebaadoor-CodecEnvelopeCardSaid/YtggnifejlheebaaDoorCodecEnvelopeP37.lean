/- ref11.Wild, Some: valid claims that often contradict each other. -/
import Derived.Test.YtggnifejlheebaaDoorCodecEnvelopeP36
import Derived.Deep.RegionHeld3
import Derived.Deep.DrawnRows
namespace Go.Proofs.YtggnifejlheebaaDoor
open Go.RowKit Pl
attribute [local go_sem ↓] Go.wp_at_zero Go.wp_at_succ

/- one claim appended in a region that draws its order -/
theorem step_oneC {w : World} {base : Nat} {v : Value} {cs : List Clm} {ops : Array Oper} {o : Oper} {a : Act} {K : Act → World → Prop} {Q : Exit → Act → World → Prop} {E : Prop} (hgd : o.guard = none) (s x : Operand)
    (ho : o.op = .call { callee := .builtin .append, args := #[s, x], argTypes := #[29, 29] })
    (hs : a.eval s = v) (hown : MineC w base v cs) (g c : Nat) (d : Clm) (t : TypeId) (hx : a.eval x = .slice (some ⟨g, 0, none⟩) 1 c) (hc1 : 1 ≤ c) (hb : Box w g t (cells4 d).toArray)
    (hn : cs.length < 1099511627776) (hbase : base ≤ w.heap.size)
    (h : ∀ r cap w', MineC w' base (.slice (some ⟨r, 0, none⟩) (cs.length + 1) cap) (cs ++ [d]) → Keeps (fun i => v.ownBlock = some i) w w' →
      K (a.put o.dst (.slice (some ⟨r, 0, none⟩) (cs.length + 1) cap)) w') :
    if Region.wanted o (yielded ops a.tmps) = true then Oper.wp Tryd.prog o a w K Q else E := by
  have hr : RdC w w.heap.size (.slice (some ⟨g, 0, none⟩) 1 c) [d] := by
    refine ⟨_, c, rfl, hc1, fun _ => ⟨_, _, rfl, hb.lt, fun j u hu => ?_⟩⟩
    rw [Nat.zero_add, hb.cell, ← hu, flat_one]
    simp
  have hw : Region.wanted o (yielded ops a.tmps) = true := by simp [Region.wanted, hgd]
  rw [if_pos hw]
  obtain ⟨v', w', hrun, h2, h3, h4⟩ := run_appC o.type hown hr (by simp; omega) hbase
  unfold Oper.wp execOp
  simp only [ho, resolve, invoke, builtin, Sem.run_bind, Sem.run_pure, Result.andThen_ok, List.map_toArray, List.map_cons, List.map_nil, hs, hx, hrun]
  rcases h2.form with ⟨_, hh⟩ | ⟨g', cap', cur, rfl, hb', hbox, _⟩
  · simp at hh
  · simp only [List.length_append, List.length_singleton] at h2 ⊢
    exact h g' cap' w' h2 h3
set_option maxHeartbeats 6400000 in
set_option maxRecDepth 100000 in
theorem rwild_any (nm : ByteArray) (A : Option Addr) (n c : Nat) (x : Fin 10 → Int) (v : Value) (l : List Int) (w : World) (hx : TinyD x) (h : Rd w w.heap.size v (l.map vi)) (hi : ∀ y ∈ l, I64 y) (hl : l.length ≤ 1000000000000000) :
    Calls Tryd.prog 14 #[vdecl nm (.slice A n c) x, v, .int .i64 4] w (SomePost x w) := by
  have HX := Lib.hid hx
  obtain ⟨h3, h3', h4, h4', h5, h5', h6, h6', h7, h7', h8, h8'⟩ := hx
  obtain ⟨B, p, q, rfl, hp, -⟩ := h.form
  rw [List.length_map] at hp
  have HP := Lib.hid hp
  have hpl : p ≤ 1000000000000000 := by omega
  have HV := Lib.hid h
  have HI := Lib.hid hi
  have hbd : Box (w.alloc (.cells (cells12 nm (.slice A n c) x).toArray 27)) w.heap.size 27 (cells12 nm (.slice A n c) x).toArray := Box.new _ _ _
  have hG0 := (Grew.refl w).alloc (.cells (cells12 nm (.slice A n c) x).toArray 27)
  have HB := Lib.hid hbd
  have HG0 := Lib.hid hG0
  clear h hi hp hbd hG0
  rw [vdecl_cells]
  go_enter Tryd.func14, Tryd.ntmps14
  go_upto_region 1 with fail
  generalize w.alloc (.cells (cells12 nm (.slice A n c) x).toArray 27) = w1 at *
  obtain ⟨c3, c4, c5, c6, c7, c8⟩ := dnums HB.out
  go_wp2_with fail
  go_loopw [7, 9] (fun o i wr => ∃ (j m : Nat) (C : Option Addr) (q : Nat) (cs : List Clm), j ≤ p ∧ i = .int .i64 j ∧ o = .slice C m q ∧ m = cs.length ∧ m ≤ 4 ∧ FewC x cs ∧ MineC wr w.heap.size (.slice C m q) cs ∧ Box wr w.heap.size 27 (cells12 nm (.slice A n c) x).toArray ∧ Grew w wr) (fun _ i _ => p - (intOf i).toNat)
  case atStart => exact ⟨0, 0, none, 0, [], by omega, rfl, rfl, rfl, by omega, FewC.nil x, MineC.nil _ _, HB.out, HG0.out⟩
  case round =>
    clear HB HG0 c3 c4 c5 c6 c7 c8
    obtain ⟨j, m, C, q2, cs, hj, rfl, rfl, hm, hm4, hF, hM, hB, hG⟩ := hrel
    have HM := Lib.hid hm
    have HF := Lib.hid hF
    clear hm hF
    by_cases hlt : j + 3 < p ∧ m < 4
    · obtain ⟨hj3, hm8⟩ := hlt
      have hjl : j + 3 < l.length := by rw [← HP.out]; exact hj3
      have hR := HV.out.grew (Nat.le_refl _) hG
      obtain ⟨ad, rfl, hadb, a0⟩ := hR.int_at (j := j) (by omega)
      obtain ⟨_, h1, _, a1⟩ := hR.int_at (j := j + 1) (by omega)
      obtain rfl := Option.some.inj h1
      obtain ⟨_, h2, _, a2⟩ := hR.int_at (j := j + 2) (by omega)
      obtain rfl := Option.some.inj h2
      obtain ⟨_, h3q, _, a3⟩ := hR.int_at (j := j + 3) (by omega)
      obtain rfl := Option.some.inj h3q
      have i0 := getD_I64 HI.out j
      have i1 := getD_I64 HI.out (j + 1)
      have i2 := getD_I64 HI.out (j + 2)
      have i3 := getD_I64 HI.out (j + 3)
      clear h1 h2 h3q hjl hR
      generalize l.getD j 0 = z0 at *
      generalize l.getD (j + 1) 0 = z1 at *
      generalize l.getD (j + 2) 0 = z2 at *
      generalize l.getD (j + 3) 0 = z3 at *
      have a1' : wr.cell? ⟨ad.block, ad.off + (j + 1), none⟩ = some (.int .i64 z1) := by simpa [Addr.add] using a1
      have a2' : wr.cell? ⟨ad.block, ad.off + (j + 2), none⟩ = some (.int .i64 z2) := by simpa [Addr.add] using a2
      have a3' : wr.cell? ⟨ad.block, ad.off + (j + 3), none⟩ = some (.int .i64 z3) := by simpa [Addr.add] using a3
      have b1 : decide ((j : Int) + 3 < (p : Int)) = true := by simp; omega
      have b2 : decide ((m : Int) < 4) = true := by simp; omega
      have HA0 := Lib.hid (fun w' => arnd' z0 (x 8 - x 7 + 1) w' i0 (by omega) (by omega))
      have HA1 := Lib.hid (fun w' => arnd' z1 4 w' i1 (by omega) (by omega))
      have HA2 := Lib.hid (fun w' => arnd' z2 (x 4 - x 3 + 4) w' i2 (by omega) (by omega))
      have HA3 := Lib.hid (fun w' => arnd' z3 9 w' i3 (by omega) (by omega))
      have hf := arnd_lt z0 (x 8 - x 7 + 1).toNat (by omega)
      have hr := arnd_lt z1 (4 : Int).toNat (by decide)
      have hk := arnd_lt z2 (x 4 - x 3 + 4).toNat (by omega)
      have hd := arnd_lt z3 (9 : Int).toNat (by decide)
      generalize arnd z0 (x 8 - x 7 + 1).toNat = f at *
      generalize arnd z1 (4 : Int).toNat = r at *
      generalize arnd z2 (x 4 - x 3 + 4).toNat = k at *
      generalize arnd z3 (9 : Int).toNat = dd at *
      have hr4 : r < 4 := hr
      have hd9 : dd < 9 := hd
      have hfN : (f : Int) < x 8 - x 7 + 1 := by omega
      have hkN : (k : Int) < x 4 - x 3 + 4 := by omega
      clear a1 a2 a3 hf hr hk hd
      go_wp2_with fail
      refine (HA0.out wr).mono ?_
      rintro e w' ⟨rfl, hw'⟩
      rw [hw']; clear hw' w'
      have HB := Lib.hid hB
      have HG := Lib.hid hG
      have HMM := Lib.hid hM
      have s0 : IntKind.i64.wrap (x 4 - x 3) = x 4 - x 3 := IntWalk.i64_in _ (by omega)
      have s1 : IntKind.i64.wrap (x 4 - x 3 + 4) = x 4 - x 3 + 4 := IntWalk.i64_in _ (by omega)
      have s2 : IntKind.i64.wrap (x 3 - 2) = x 3 - 2 := IntWalk.i64_in _ (by omega)
      have s3 : IntKind.i64.wrap (x 3 - 2 + (k : Int)) = x 3 - 2 + (k : Int) := IntWalk.i64_in _ (by omega)
      have s4 : IntKind.i64.wrap ((j : Int) + 2) = (j : Int) + 2 := IntWalk.i64_in _ (by omega)
      have r2 : (0 : Int) ≤ (j : Int) + 2 := by omega
      have r2' : (j : Int) + 2 < (p : Int) := by omega
      have n2 : ((j : Int) + 2).toNat = j + 2 := by omega
      obtain ⟨c3, c4, c5, c6, c7, c8⟩ := dnums hB
      clear hB hG hM
      go_upto_region 7 with fail
      go_quiet ((go_at_call 37; exact quietE (HA2.out _)))
      clear s0 s1 s2 s3 s4 n2 r2 r2' c3 c4 c5 c6 c7 c8
      have hgz : Grew wr (wr.drewN nq) := Keeps.drewN (Grew.refl wr) nq
      have hR := HV.out.grew (Nat.le_refl _) HG.out
      have HCL := Lib.hid (show ∀ w', Grew wr w' → w'.cell? ⟨w.heap.size, 9, none⟩ = some (.int .i64 (x 7)) ∧ w'.cell? ⟨ad.block, ad.off + (j + 1), none⟩ = some (.int .i64 z1) ∧ w'.cell? ⟨ad.block, ad.off + (j + 3), none⟩ = some (.int .i64 z3) from fun w' g => ⟨(HB.out.grew g).cell 9, (World.cell?_of_block (a := ⟨ad.block, ad.off + (j + 1), none⟩) (g.block _ (Nat.lt_of_lt_of_le hadb HG.out.size) (fun e => e))).trans a1', (World.cell?_of_block (a := ⟨ad.block, ad.off + (j + 3), none⟩) (g.block _ (Nat.lt_of_lt_of_le hadb HG.out.size) (fun e => e))).trans a3'⟩)
      have hB5 := HB.out.grew hgz
      have hM5 := HMM.out.grew hgz
      have hG5 := HG.out.trans hgz
      have HC5 := Lib.hid (fun w' (g : Grew (wr.drewN nq) w') => HCL.out w' (hgz.trans g))
      obtain ⟨Y, hY⟩ : ∃ Y, x 3 - 2 + (k : Int) = Y := ⟨_, rfl⟩
      have y1 : -100 ≤ Y := by omega
      have y2 : Y ≤ 100 := by omega
      rw [hY]
      clear hY
      generalize wr.drewN nq = w5 at *
      clear hgz hR HCL HB HMM HG HA0 HA2 a1' a2' a3'
      have HB5 := Lib.hid hB5
      have HM5 := Lib.hid hM5
      have HG5 := Lib.hid hG5
      obtain ⟨g, hg⟩ : ∃ g : Nat, (if (f : Int) + (r : Int) < x 8 - x 7 then (f : Int) + (r : Int) else x 8 - x 7) = (g : Int) := by
        by_cases hc : (f : Int) + (r : Int) < x 8 - x 7
        · exact ⟨f + r, by rw [if_pos hc]; rfl⟩
        · exact ⟨(x 8 - x 7).toNat, by rw [if_neg hc]; omega⟩
      have hg1 : (f : Int) ≤ (g : Int) := by omega
      have hg2 : (g : Int) ≤ x 8 - x 7 := by omega
      have hV := few_mk HX.out (a := (f : Int)) (b := (g : Int)) (lo := Y) (hi := Y + (dd : Int)) (by omega) hg1 hg2 (by omega) (by omega) (by omega)
      have HV2 := Lib.hid (HF.out.snoc hV.1 hV.2)
      have hn5 : cs.length < 1099511627776 := by rw [← HM.out]; omega
      have hw5 := hG5.size
      obtain ⟨D, hD⟩ : ∃ D : Clm, D = (x 7 + (f : Int), x 7 + (g : Int), Y, Y + (dd : Int)) := ⟨_, rfl⟩
      have HX6 := Lib.hid (show ∀ w6, Keeps (fun i => (Value.slice C m q2).ownBlock = some i) (w5.alloc (.cells (cells4 (x 7 + (f : Int), x 7 + (g : Int), Y, Y + (dd : Int))).toArray 52)).drew w6 → (w6.cell? ⟨w.heap.size, 9, none⟩ = some (.int .i64 (x 7)) ∧ w6.cell? ⟨ad.block, ad.off + (j + 1), none⟩ = some (.int .i64 z1) ∧ w6.cell? ⟨ad.block, ad.off + (j + 3), none⟩ = some (.int .i64 z3)) ∧ Box w6 w.heap.size 27 (cells12 nm (.slice A n c) x).toArray ∧ Grew w w6 from fun w6 hk => by
        have hgd : Grew w5 (w5.alloc (.cells (cells4 (x 7 + (f : Int), x 7 + (g : Int), Y, Y + (dd : Int))).toArray 52)).drew := Keeps.drew ((Grew.refl w5).alloc _)
        have hMd := HM5.out.grew hgd
        have hBd := HB5.out.grew hgd
        have hGd := HG5.out.trans hgd
        obtain ⟨d7, d1, d3⟩ := HC5.out _ hgd
        have hB6 := hBd.keep hk (fun e => hMd.ne_box e hBd (by decide) rfl)
        have had : ad.block < (w5.alloc (.cells (cells4 (x 7 + (f : Int), x 7 + (g : Int), Y, Y + (dd : Int))).toArray 52)).drew.heap.size := Nat.lt_of_lt_of_le hadb hGd.size
        have hbk := hk.block ad.block had (fun e => by have := (hMd.lt _ e).1; omega)
        exact ⟨⟨hB6.cell 9, (World.cell?_of_block (a := ⟨ad.block, ad.off + (j + 1), none⟩) hbk).trans d1, (World.cell?_of_block (a := ⟨ad.block, ad.off + (j + 3), none⟩) hbk).trans d3⟩, hB6, Grew.appC hGd hMd hk⟩)
      clear hD D
      obtain ⟨c7, e1, e3⟩ := HC5.out w5 (Grew.refl w5)
      have HD5 := Lib.hid (HC5.out _ (Keeps.drew ((Grew.refl w5).alloc (.cells (cells4 (x 7 + (f : Int), x 7 + (g : Int), Y, Y + (dd : Int))).toArray 52))))
      have s5 : IntKind.i64.wrap (x 7 + (f : Int)) = x 7 + (f : Int) := IntWalk.i64_in _ (by omega)
      have s6 : IntKind.i64.wrap (x 8 - x 7) = x 8 - x 7 := IntWalk.i64_in _ (by omega)
      have s6' : IntKind.i64.wrap (x 8 - x 7 + 1 - 1) = x 8 - x 7 := by rw [IntWalk.i64_in _ (by omega)]; omega
      have s9 : IntKind.i64.wrap ((f : Int) + (r : Int)) = (f : Int) + (r : Int) := IntWalk.i64_in _ (by omega)
      have s10 : IntKind.i64.wrap (x 7 + (g : Int)) = x 7 + (g : Int) := IntWalk.i64_in _ (by omega)
      have s11 : IntKind.i64.wrap (Y + (dd : Int)) = Y + (dd : Int) := IntWalk.i64_in _ (by omega)
      have r1 : (0 : Int) ≤ (j : Int) + 1 := by omega
      have r3 : (0 : Int) ≤ (j : Int) + 3 := by omega
      have r1' : (j : Int) + 1 < (p : Int) := by omega
      have r3' : (j : Int) + 3 < (p : Int) := by omega
      have n1 : ((j : Int) + 1).toNat = j + 1 := by omega
      have n3 : ((j : Int) + 3).toNat = j + 3 := by omega
      have s7 : IntKind.i64.wrap ((j : Int) + 1) = (j : Int) + 1 := IntWalk.i64_in _ (by omega)
      have s8 : IntKind.i64.wrap ((j : Int) + 3) = (j : Int) + 3 := IntWalk.i64_in _ (by omega)
      clear hB5 hM5 hG5 hV
      go_upto_region 8 with fail
      go_region_held3 (fun w' => w'.cell? ⟨w.heap.size, 9, none⟩ = some (.int .i64 (x 7)) ∧ w'.cell? ⟨ad.block, ad.off + (j + 1), none⟩ = some (.int .i64 z1) ∧ w'.cell? ⟨ad.block, ad.off + (j + 3), none⟩ = some (.int .i64 z3)) (first | assumption | exact HC5.out _ (Keeps.drew (Grew.refl _)) | exact HD5.out)
        (first | (go_at_call 37; (with_reducible refine (HA1.out _).mono ?_); rintro e wq ⟨rfl, rfl⟩) | (go_at_call 37; (with_reducible refine (HA3.out _).mono ?_); rintro e wq ⟨rfl, rfl⟩) | ((refine step_oneC rfl (.tmp 53) (.tmp 82) rfl rfl ((HM5.out.alloc _).grew (Keeps.drew (Grew.refl _))) w5.heap.size 1 ((x 7 + (f : Int), x 7 + (g : Int), Y, Y + (dd : Int)) : Clm) 52 rfl (Nat.le_refl _) (Box.drew (Box.new w5 52 _)) hn5 (by simp; omega) ?_; intro r6 cap6 w6 hM6 hk6; have hS6 := (HX6.out _ hk6).1; have HB6 := Lib.hid (HX6.out _ hk6).2.1; have HG6 := Lib.hid (HX6.out _ hk6).2.2; have HM6 := Lib.hid hM6; clear hM6 hk6)))
      all_goals
        clear s5 s6 s6' s7 s8 s9 s10 s11 n1 n3
        rw [← HM.out] at HM6 ⊢
        go_wp2_with fail
        go_roundw
        case rel => exact ⟨j + 4, m + 1, _, cap6, cs ++ [_], by omega, by go_num, rfl, by rw [List.length_append, HM.out]; rfl, by omega, HV2.out, HM6.out, HB6.out, HG6.out⟩
        case measure => simp [intOf]; omega
    · have hex : decide ((j : Int) + 3 < (p : Int)) = false ∨ (decide ((j : Int) + 3 < (p : Int)) = true ∧ decide ((m : Int) < 4) = false) := by
        by_cases h1 : j + 3 < p
        · exact .inr ⟨by simp; omega, by simp; omega⟩
        · exact .inl (by simp; omega)
      clear hlt
      rcases hex with h1 | ⟨h1, h2⟩
      · go_wp2_with fail
        go_ret
        exact ⟨_, cs, rfl, hM, HF.out, by rw [← HM.out]; omega, hG⟩
      · go_wp2_with fail
        go_ret
        exact ⟨_, cs, rfl, hM, HF.out, by rw [← HM.out]; omega, hG⟩
end Go.Proofs.YtggnifejlheebaaDoor
