/- ref11.Around: claims that hold for values. ref11.Wild, Some: valid claims that often contradict each other. -/
import Derived.Test.YtgkmfblmkfclbaaGreatDoorBlockSoundP34
import Derived.Test.YtgkmfblmkfclbaaGreatDoorBlockSoundP20
import Derived.Deep.RegionHeld3
import Derived.Deep.DrawnRows
namespace Go.Proofs.YtgkmfblmkfclbaaGreatDoor
open Go.RowKit Pl

def FewC (x : Fin 10 → Int) (cs : List Clm) : Prop := (∀ c ∈ cs, ValidC x c) ∧ (∀ c ∈ cs, okC c)
theorem FewC.nil (x : Fin 10 → Int) : FewC x [] := ⟨by simp, by simp⟩
theorem FewC.snoc {x : Fin 10 → Int} {cs : List Clm} (h : FewC x cs) {d : Clm} (h1 : ValidC x d) (h2 : okC d) : FewC x (cs ++ [d]) := by
  refine ⟨fun c hc => ?_, fun c hc => ?_⟩ <;> rcases List.mem_append.1 hc with hc | hc
  · exact h.1 c hc
  · obtain rfl := List.mem_singleton.1 hc; exact h1
  · exact h.2 c hc
  · obtain rfl := List.mem_singleton.1 hc; exact h2
theorem few_mk {x : Fin 10 → Int} (hx : TinyD x) {a b lo hi : Int} (h1 : 0 ≤ a) (h2 : a ≤ b) (h3 : b ≤ x 8 - x 7) (h4 : -1000 ≤ lo) (h5 : lo ≤ hi) (h6 : hi ≤ 1000) : ValidC x (x 7 + a, x 7 + b, lo, hi) ∧ okC (x 7 + a, x 7 + b, lo, hi) := by
  have := hx.first
  have := hx.first2
  have := hx.span
  constructor
  · constructor <;> simp <;> omega
  · unfold okC R40; simp; omega
def SomePost (x : Fin 10 → Int) (w : World) (e : Ending) (w' : World) : Prop :=
  ∃ v cs, e = .returned v ∧ MineC w' w.heap.size v cs ∧ FewC x cs ∧ cs.length ≤ 5 ∧ Grew w w'
set_option maxHeartbeats 6400000 in
set_option maxRecDepth 100000 in
theorem raround_any (nm : ByteArray) (A : Option Addr) (n c : Nat) (x : Fin 10 → Int) (u v : Value) (xs l : List Int) (w : World) (hx : TinyD x) (hu : Rd w w.heap.size u (xs.map vi)) (hxl : xs.length = spanD x) (hS : Slow xs) (h : Rd w w.heap.size v (l.map vi)) (hi : ∀ y ∈ l, I64 y) (hl : l.length ≤ 1000000000000000) :
    Calls Tryz.prog 18 #[vdecl nm (.slice A n c) x, u, v, .int .i64 5] w (SomePost x w) := by
  have HX := Lib.hid hx
  obtain ⟨h3, h3', h4, h4', h5, h5', h6, h6', h7, h7', h8, h8'⟩ := hx
  obtain ⟨U, N, cu, rfl, hN, -⟩ := hu.form
  rw [List.length_map] at hN
  obtain ⟨B, p, q, rfl, hp, -⟩ := h.form
  rw [List.length_map] at hp
  have HP := Lib.hid hp
  have HNx := Lib.hid hN
  have hpl : p ≤ 1000000000000000 := by omega
  have hsp : (N : Int) = x 8 - x 7 + 1 := by
    rw [hN, hxl]; unfold spanD; omega
  have HSP := Lib.hid hsp
  have hN1 : 1 ≤ N := by omega
  have hN2 : N ≤ 14 := by omega
  have HU := Lib.hid hu
  have HS := Lib.hid hS
  have HV := Lib.hid h
  have HI := Lib.hid hi
  have hbd : Box (w.alloc (.cells (cells12 nm (.slice A n c) x).toArray 27)) w.heap.size 27 (cells12 nm (.slice A n c) x).toArray := Box.new _ _ _
  have hG0 := (Grew.refl w).alloc (.cells (cells12 nm (.slice A n c) x).toArray 27)
  have HB := Lib.hid hbd
  have HG0 := Lib.hid hG0
  clear hu hxl hS h hi hp hN hsp hbd hG0
  rw [vdecl_cells]
  go_enter Tryz.func18, Tryz.ntmps18
  go_upto_region 1 with fail
  generalize w.alloc (.cells (cells12 nm (.slice A n c) x).toArray 27) = w1 at *
  go_wp2_with fail
  go_loopw [9, 11] (fun o i wr => ∃ (j m : Nat) (C : Option Addr) (q : Nat) (cs : List Clm), j ≤ p ∧ i = .int .i64 j ∧ o = .slice C m q ∧ m = cs.length ∧ m ≤ 5 ∧ FewC x cs ∧ MineC wr w.heap.size (.slice C m q) cs ∧ Box wr w.heap.size 27 (cells12 nm (.slice A n c) x).toArray ∧ Grew w wr) (fun _ i _ => p - (intOf i).toNat)
  case atStart => exact ⟨0, 0, none, 0, [], by omega, rfl, rfl, rfl, by omega, FewC.nil x, MineC.nil _ _, HB.out, HG0.out⟩
  case round =>
    clear HB HG0
    obtain ⟨j, m, C, q2, cs, hj, rfl, rfl, hm, hm5, hF, hM, hB, hG⟩ := hrel
    have HM := Lib.hid hm
    have HF := Lib.hid hF
    clear hm hF
    by_cases hlt : j + 2 < p ∧ m < 5
    · obtain ⟨hj3, hm8⟩ := hlt
      have hjl : j + 2 < l.length := by rw [← HP.out]; exact hj3
      have hR := HV.out.grew (Nat.le_refl _) hG
      obtain ⟨ad, rfl, hadb, a0⟩ := hR.int_at (j := j) (by omega)
      obtain ⟨_, h1, _, a1⟩ := hR.int_at (j := j + 1) (by omega)
      obtain rfl := Option.some.inj h1
      obtain ⟨_, h2, _, a2⟩ := hR.int_at (j := j + 2) (by omega)
      obtain rfl := Option.some.inj h2
      have i0 := getD_I64 HI.out j
      have i1 := getD_I64 HI.out (j + 1)
      have i2 := getD_I64 HI.out (j + 2)
      clear h1 h2 hjl hR
      generalize l.getD j 0 = z0 at *
      generalize l.getD (j + 1) 0 = z1 at *
      generalize l.getD (j + 2) 0 = z2 at *
      have a1' : wr.cell? ⟨ad.block, ad.off + (j + 1), none⟩ = some (.int .i64 z1) := by simpa [Addr.add] using a1
      have a2' : wr.cell? ⟨ad.block, ad.off + (j + 2), none⟩ = some (.int .i64 z2) := by simpa [Addr.add] using a2
      have b1 : decide ((j : Int) + 2 < (p : Int)) = true := by simp; omega
      have b2 : decide ((m : Int) < 5) = true := by simp; omega
      have HA0 := Lib.hid (arnd' z0 (N : Int) wr i0 (by omega) (by omega))
      have HA1 := Lib.hid (arnd' z1 3 wr i1 (by omega) (by omega))
      have HA2 := Lib.hid (arnd' z2 16 wr i2 (by omega) (by omega))
      have hf0 := arnd_lt z0 (N : Int).toNat (by omega)
      have hr := arnd_lt z1 (3 : Int).toNat (by decide)
      have hk := arnd_lt z2 (16 : Int).toNat (by decide)
      generalize arnd z0 (N : Int).toNat = f at *
      generalize arnd z1 (3 : Int).toNat = r at *
      generalize arnd z2 (16 : Int).toNat = k at *
      have hf : f < N := by simpa using hf0
      clear a1 a2 hf0
      go_wp2_with fail
      refine HA0.out.mono ?_
      rintro e w' ⟨rfl, hw'⟩
      rw [hw']; clear hw' w'
      go_wp2_with fail
      refine HA1.out.mono ?_
      rintro e w' ⟨rfl, hw'⟩
      rw [hw']; clear hw' w'
      have hr3 : r < 3 := hr
      have hk16 : k < 16 := hk
      have f0 : (0 : Int) ≤ (f : Int) := by omega
      have f1 : (f : Int) < (N : Int) := by omega
      obtain ⟨xf, hxf⟩ : ∃ y, xs.getD f 0 = y := ⟨_, rfl⟩
      have hsf := HS.out f (by rw [← HNx.out]; exact hf)
      rw [hxf] at hsf
      obtain ⟨hsf1, hsf2⟩ := hsf
      obtain ⟨ua, rfl, hub, e0⟩ := (HU.out.grew (Nat.le_refl _) hG).int_at (j := f) (by rw [← HNx.out]; exact hf)
      rw [hxf] at e0
      clear hxf hr hk HA0 HA1
      go_upto_region 8 with fail
      obtain ⟨g, hg⟩ : ∃ g : Nat, (if (f : Int) + (r : Int) < (N : Int) - 1 then (f : Int) + (r : Int) else (N : Int) - 1) = (g : Int) := by
        by_cases hc : (f : Int) + (r : Int) < (N : Int) - 1
        · exact ⟨f + r, by rw [if_pos hc]; rfl⟩
        · exact ⟨N - 1, by rw [if_neg hc]; omega⟩
      have hg1 : f ≤ g := by omega
      have hg2 : g < N := by omega
      rw [hg]
      clear hg
      go_wp2_with fail
      have HB := Lib.hid hB
      have HG := Lib.hid hG
      have HMM := Lib.hid hM
      have hx13 : (N : Int) ≤ 14 := by omega
      have HF1 := Lib.hid (show -124 ≤ xf ∧ xf ≤ 124 from ⟨by omega, by omega⟩)
      clear hB hG hM e0 hsf1 hsf2
      go_loopw [14, 15, 16] (fun a b i w' => ∃ (t : Nat) (lo hi : Int), f ≤ t ∧ t ≤ g + 1 ∧ i = .int .i64 (t : Nat) ∧ a = .int .i64 lo ∧ b = .int .i64 hi ∧ -124 ≤ lo ∧ lo ≤ hi ∧ hi ≤ 124 ∧ w' = wr) (fun _ _ i _ => g + 1 - (intOf i).toNat)
      case atStart => exact ⟨f, xf, xf, by omega, by omega, rfl, rfl, rfl, HF1.out.1, by omega, HF1.out.2, rfl⟩
      case round =>
        obtain ⟨t, lo, hi, ht1, ht2, rfl, rfl, rfl, hl1, hl2, hl3, rfl⟩ := hrel
        by_cases hlt : t ≤ g
        · have tt : decide ((t : Int) ≤ (g : Int)) = true := by simpa using hlt
          have htN : t < N := by omega
          obtain ⟨y, hy⟩ : ∃ y, xs.getD t 0 = y := ⟨_, rfl⟩
          have hs := HS.out t (by rw [← HNx.out]; exact htN)
          rw [hy] at hs
          obtain ⟨_, hua, _, e0⟩ := (HU.out.grew (Nat.le_refl _) HG.out).int_at (j := t) (by rw [← HNx.out]; exact htN)
          obtain rfl := Option.some.inj hua
          rw [hy] at e0
          clear hy hua
          obtain ⟨hs1, hs2⟩ := hs
          have y1 : -124 ≤ y := by omega
          have y2 : y ≤ 124 := by omega
          clear hs1 hs2
          go_wp2_with fail
          go_roundw
          case rel => exact ⟨t + 1, _, _, by omega, by omega, by go_num, rfl, rfl, by omega, by omega, by omega, trivial⟩
          case measure => simp [intOf]; omega
        · have tt : decide ((t : Int) ≤ (g : Int)) = false := by simpa using hlt
          have a2'' := a2'
          go_wp2_with fail
          refine HA2.out.mono ?_
          rintro e w' ⟨rfl, hw'⟩
          rw [hw']; clear hw' w' a2''
          have k0 : (0 : Int) ≤ (k : Int) := by omega
          have k1 : (k : Int) < 16 := by omega
          obtain ⟨c3, c4, c5, c6, c7, c8⟩ := dnums HB.out
          have hn5 : cs.length < 1099511627776 := by rw [← HM.out]; omega
          have hV := few_mk HX.out (a := (f : Int)) (b := (g : Int)) (lo := lo - (k : Int) / 4) (hi := hi + (k : Int) % 4) (by omega) (by omega) (by have := HSP.out; omega) (by omega) (by omega) (by omega)
          have HV2 := Lib.hid (HF.out.snoc hV.1 hV.2)
          clear hV
          go_wp2_with (at_builtin; refine app_oneC rfl (.tmp 82) (.tmp 100) rfl rfl (HMM.out.alloc _) wr.heap.size 1 ((x 7 + (f : Int), x 7 + (g : Int), lo - (k : Int) / 4, hi + (k : Int) % 4) : Clm) 82 rfl (Nat.le_refl _) (Box.new wr 82 _) hn5 (by have := HG.out.size; simp; omega) ?_; intro r6 cap6 w6 hM6 hk6 hr6 hbr6 hlr6; have HB6 := Lib.hid ((HB.out.alloc (.cells (cells4 (x 7 + (f : Int), x 7 + (g : Int), lo - (k : Int) / 4, hi + (k : Int) % 4)).toArray 82)).keep hk6 (fun e => (HMM.out.alloc _).ne_box e (HB.out.alloc (.cells (cells4 (x 7 + (f : Int), x 7 + (g : Int), lo - (k : Int) / 4, hi + (k : Int) % 4)).toArray 82)) (by decide) rfl)); have HG6 := Lib.hid (Grew.appC (HG.out.alloc _) (HMM.out.alloc _) hk6); rw [← HM.out] at hM6 ⊢; have HM6 := Lib.hid hM6; clear hM6 hk6 hr6 hbr6 hlr6)
          go_roundw
          case rel => exact ⟨j + 3, m + 1, _, cap6, cs ++ [_], by omega, by go_num, rfl, by rw [List.length_append, HM.out]; rfl, by omega, HV2.out, HM6.out, HB6.out, HG6.out⟩
          case measure => simp [intOf]; omega
    · have hex : decide ((j : Int) + 2 < (p : Int)) = false ∨ (decide ((j : Int) + 2 < (p : Int)) = true ∧ decide ((m : Int) < 5) = false) := by
        by_cases h1 : j + 2 < p
        · exact .inr ⟨by simp; omega, by simp; omega⟩
        · exact .inl (by simp; omega)
      clear hlt
      rcases hex with h1 | ⟨h1, h2⟩
      · go_wp2_with fail
        go_ret
        exact ⟨_, cs, rfl, hM, HF.out, by rw [← HM.out]; exact hm5, hG⟩
      · go_wp2_with fail
        go_ret
        exact ⟨_, cs, rfl, hM, HF.out, by rw [← HM.out]; exact hm5, hG⟩
end Go.Proofs.YtgkmfblmkfclbaaGreatDoor
namespace Go.Proofs.YtgkmfblmkfclbaaGreatDoor
open Go.RowKit Pl
attribute [local go_sem ↓] Go.wp_at_zero Go.wp_at_succ

/- one claim appended in a region that draws its order -/
theorem step_oneC {w : World} {base : Nat} {v : Value} {cs : List Clm} {ops : Array Oper} {o : Oper} {a : Act} {K : Act → World → Prop} {Q : Exit → Act → World → Prop} {E : Prop} (hgd : o.guard = none) (s x : Operand)
    (ho : o.op = .call { callee := .builtin .append, args := #[s, x], argTypes := #[29, 29] })
    (hs : a.eval s = v) (hown : MineC w base v cs) (g c : Nat) (d : Clm) (t : TypeId) (hx : a.eval x = .slice (some ⟨g, 0, none⟩) 1 c) (hc1 : 1 ≤ c) (hb : Box w g t (cells4 d).toArray)
    (hn : cs.length < 1099511627776) (hbase : base ≤ w.heap.size)
    (h : ∀ r cap w', MineC w' base (.slice (some ⟨r, 0, none⟩) (cs.length + 1) cap) (cs ++ [d]) → Keeps (fun i => v.ownBlock = some i) w w' →
      K (a.put o.dst (.slice (some ⟨r, 0, none⟩) (cs.length + 1) cap)) w') :
    if Region.wanted o (yielded ops a.tmps) = true then Oper.wp Tryz.prog o a w K Q else E := by
  have hr : RdC w w.heap.size (.slice (some ⟨g, 0, none⟩) 1 c) [d] := by
    refine ⟨_, c, rfl, hc1, fun _ => ⟨_, _, rfl, hb.lt, fun j u hu => ?_⟩⟩
    rw [Nat.zero_add, hb.cell, ← hu, flat_one]
    simp
  have hw : Region.wanted o (yielded ops a.tmps) = true := by simp [Region.wanted, hgd]
  rw [if_pos hw]
  obtain ⟨v', w', hrun, h2, h3, h4⟩ := run_appC o.type hown hr (by simp; omega) hbase
  unfold Oper.wp execOp
  simp only [ho, resolve, invoke, builtin, Sem.run_bind, Sem.run_pure, Result.andThen_ok, List.map_toArray, List.map_cons, List.map_nil, hs, hx, hrun]
  rcases h2.form with ⟨_, hh⟩ | ⟨g', cap', cur, rfl, hb', hbox, _⟩
  · simp at hh
  · simp only [List.length_append, List.length_singleton] at h2 ⊢
    exact h g' cap' w' h2 h3
set_option maxHeartbeats 6400000 in
set_option maxRecDepth 100000 in
theorem rwild_any (nm : ByteArray) (A : Option Addr) (n c : Nat) (x : Fin 10 → Int) (v : Value) (l : List Int) (w : World) (hx : TinyD x) (h : Rd w w.heap.size v (l.map vi)) (hi : ∀ y ∈ l, I64 y) (hl : l.length ≤ 1000000000000000) :
    Calls Tryz.prog 17 #[vdecl nm (.slice A n c) x, v, .int .i64 4] w (SomePost x w) := by
  have HX := Lib.hid hx
  obtain ⟨h3, h3', h4, h4', h5, h5', h6, h6', h7, h7', h8, h8'⟩ := hx
  obtain ⟨B, p, q, rfl, hp, -⟩ := h.form
  rw [List.length_map] at hp
  have HP := Lib.hid hp
  have hpl : p ≤ 1000000000000000 := by omega
  have HV := Lib.hid h
  have HI := Lib.hid hi
  have hbd : Box (w.alloc (.cells (cells12 nm (.slice A n c) x).toArray 27)) w.heap.size 27 (cells12 nm (.slice A n c) x).toArray := Box.new _ _ _
  have hG0 := (Grew.refl w).alloc (.cells (cells12 nm (.slice A n c) x).toArray 27)
  have HB := Lib.hid hbd
  have HG0 := Lib.hid hG0
  clear h hi hp hbd hG0
  rw [vdecl_cells]
  go_enter Tryz.func17, Tryz.ntmps17
  go_upto_region 1 with fail
  generalize w.alloc (.cells (cells12 nm (.slice A n c) x).toArray 27) = w1 at *
  obtain ⟨c3, c4, c5, c6, c7, c8⟩ := dnums HB.out
  go_wp2_with fail
  go_loopw [7, 9] (fun o i wr => ∃ (j m : Nat) (C : Option Addr) (q : Nat) (cs : List Clm), j ≤ p ∧ i = .int .i64 j ∧ o = .slice C m q ∧ m = cs.length ∧ m ≤ 4 ∧ FewC x cs ∧ MineC wr w.heap.size (.slice C m q) cs ∧ Box wr w.heap.size 27 (cells12 nm (.slice A n c) x).toArray ∧ Grew w wr) (fun _ i _ => p - (intOf i).toNat)
  case atStart => exact ⟨0, 0, none, 0, [], by omega, rfl, rfl, rfl, by omega, FewC.nil x, MineC.nil _ _, HB.out, HG0.out⟩
  case round =>
    clear HB HG0 c3 c4 c5 c6 c7 c8
    obtain ⟨j, m, C, q2, cs, hj, rfl, rfl, hm, hm4, hF, hM, hB, hG⟩ := hrel
    have HM := Lib.hid hm
    have HF := Lib.hid hF
    clear hm hF
    by_cases hlt : j + 3 < p ∧ m < 4
    · obtain ⟨hj3, hm8⟩ := hlt
      have hjl : j + 3 < l.length := by rw [← HP.out]; exact hj3
      have hR := HV.out.grew (Nat.le_refl _) hG
      obtain ⟨ad, rfl, hadb, a0⟩ := hR.int_at (j := j) (by omega)
      obtain ⟨_, h1, _, a1⟩ := hR.int_at (j := j + 1) (by omega)
      obtain rfl := Option.some.inj h1
      obtain ⟨_, h2, _, a2⟩ := hR.int_at (j := j + 2) (by omega)
      obtain rfl := Option.some.inj h2
      obtain ⟨_, h3q, _, a3⟩ := hR.int_at (j := j + 3) (by omega)
      obtain rfl := Option.some.inj h3q
      have i0 := getD_I64 HI.out j
      have i1 := getD_I64 HI.out (j + 1)
      have i2 := getD_I64 HI.out (j + 2)
      have i3 := getD_I64 HI.out (j + 3)
      clear h1 h2 h3q hjl hR
      generalize l.getD j 0 = z0 at *
      generalize l.getD (j + 1) 0 = z1 at *
      generalize l.getD (j + 2) 0 = z2 at *
      generalize l.getD (j + 3) 0 = z3 at *
      have a1' : wr.cell? ⟨ad.block, ad.off + (j + 1), none⟩ = some (.int .i64 z1) := by simpa [Addr.add] using a1
      have a2' : wr.cell? ⟨ad.block, ad.off + (j + 2), none⟩ = some (.int .i64 z2) := by simpa [Addr.add] using a2
      have a3' : wr.cell? ⟨ad.block, ad.off + (j + 3), none⟩ = some (.int .i64 z3) := by simpa [Addr.add] using a3
      have b1 : decide ((j : Int) + 3 < (p : Int)) = true := by simp; omega
      have b2 : decide ((m : Int) < 4) = true := by simp; omega
      have HA0 := Lib.hid (fun w' => arnd' z0 (x 8 - x 7 + 1) w' i0 (by omega) (by omega))
      have HA1 := Lib.hid (fun w' => arnd' z1 4 w' i1 (by omega) (by omega))
      have HA2 := Lib.hid (fun w' => arnd' z2 (x 4 - x 3 + 4) w' i2 (by omega) (by omega))
      have HA3 := Lib.hid (fun w' => arnd' z3 9 w' i3 (by omega) (by omega))
      have hf := arnd_lt z0 (x 8 - x 7 + 1).toNat (by omega)
      have hr := arnd_lt z1 (4 : Int).toNat (by decide)
      have hk := arnd_lt z2 (x 4 - x 3 + 4).toNat (by omega)
      have hd := arnd_lt z3 (9 : Int).toNat (by decide)
      generalize arnd z0 (x 8 - x 7 + 1).toNat = f at *
      generalize arnd z1 (4 : Int).toNat = r at *
      generalize arnd z2 (x 4 - x 3 + 4).toNat = k at *
      generalize arnd z3 (9 : Int).toNat = dd at *
      have hr4 : r < 4 := hr
      have hd9 : dd < 9 := hd
      have hfN : (f : Int) < x 8 - x 7 + 1 := by omega
      have hkN : (k : Int) < x 4 - x 3 + 4 := by omega
      clear a1 a2 a3 hf hr hk hd
      go_wp2_with fail
      refine (HA0.out wr).mono ?_
      rintro e w' ⟨rfl, hw'⟩
      rw [hw']; clear hw' w'
      have HB := Lib.hid hB
      have HG := Lib.hid hG
      have HMM := Lib.hid hM
      have s0 : IntKind.i64.wrap (x 4 - x 3) = x 4 - x 3 := IntWalk.i64_in _ (by omega)
      have s1 : IntKind.i64.wrap (x 4 - x 3 + 4) = x 4 - x 3 + 4 := IntWalk.i64_in _ (by omega)
      have s2 : IntKind.i64.wrap (x 3 - 2) = x 3 - 2 := IntWalk.i64_in _ (by omega)
      have s3 : IntKind.i64.wrap (x 3 - 2 + (k : Int)) = x 3 - 2 + (k : Int) := IntWalk.i64_in _ (by omega)
      have s4 : IntKind.i64.wrap ((j : Int) + 2) = (j : Int) + 2 := IntWalk.i64_in _ (by omega)
      have r2 : (0 : Int) ≤ (j : Int) + 2 := by omega
      have r2' : (j : Int) + 2 < (p : Int) := by omega
      have n2 : ((j : Int) + 2).toNat = j + 2 := by omega
      obtain ⟨c3, c4, c5, c6, c7, c8⟩ := dnums hB
      clear hB hG hM
      go_upto_region 7 with fail
      go_quiet ((go_at_call 8; exact quietE (HA2.out _)))
      clear s0 s1 s2 s3 s4 n2 r2 r2' c3 c4 c5 c6 c7 c8
      have hgz : Grew wr (wr.drewN nq) := Keeps.drewN (Grew.refl wr) nq
      have hR := HV.out.grew (Nat.le_refl _) HG.out
      have HCL := Lib.hid (show ∀ w', Grew wr w' → w'.cell? ⟨w.heap.size, 9, none⟩ = some (.int .i64 (x 7)) ∧ w'.cell? ⟨ad.block, ad.off + (j + 1), none⟩ = some (.int .i64 z1) ∧ w'.cell? ⟨ad.block, ad.off + (j + 3), none⟩ = some (.int .i64 z3) from fun w' g => ⟨(HB.out.grew g).cell 9, (World.cell?_of_block (a := ⟨ad.block, ad.off + (j + 1), none⟩) (g.block _ (Nat.lt_of_lt_of_le hadb HG.out.size) (fun e => e))).trans a1', (World.cell?_of_block (a := ⟨ad.block, ad.off + (j + 3), none⟩) (g.block _ (Nat.lt_of_lt_of_le hadb HG.out.size) (fun e => e))).trans a3'⟩)
      have hB5 := HB.out.grew hgz
      have hM5 := HMM.out.grew hgz
      have hG5 := HG.out.trans hgz
      have HC5 := Lib.hid (fun w' (g : Grew (wr.drewN nq) w') => HCL.out w' (hgz.trans g))
      obtain ⟨Y, hY⟩ : ∃ Y, x 3 - 2 + (k : Int) = Y := ⟨_, rfl⟩
      have y1 : -100 ≤ Y := by omega
      have y2 : Y ≤ 100 := by omega
      rw [hY]
      clear hY
      generalize wr.drewN nq = w5 at *
      clear hgz hR HCL HB HMM HG HA0 HA2 a1' a2' a3'
      have HB5 := Lib.hid hB5
      have HM5 := Lib.hid hM5
      have HG5 := Lib.hid hG5
      obtain ⟨g, hg⟩ : ∃ g : Nat, (if (f : Int) + (r : Int) < x 8 - x 7 then (f : Int) + (r : Int) else x 8 - x 7) = (g : Int) := by
        by_cases hc : (f : Int) + (r : Int) < x 8 - x 7
        · exact ⟨f + r, by rw [if_pos hc]; rfl⟩
        · exact ⟨(x 8 - x 7).toNat, by rw [if_neg hc]; omega⟩
      have hg1 : (f : Int) ≤ (g : Int) := by omega
      have hg2 : (g : Int) ≤ x 8 - x 7 := by omega
      have hV := few_mk HX.out (a := (f : Int)) (b := (g : Int)) (lo := Y) (hi := Y + (dd : Int)) (by omega) hg1 hg2 (by omega) (by omega) (by omega)
      have HV2 := Lib.hid (HF.out.snoc hV.1 hV.2)
      have hn5 : cs.length < 1099511627776 := by rw [← HM.out]; omega
      have hw5 := hG5.size
      obtain ⟨D, hD⟩ : ∃ D : Clm, D = (x 7 + (f : Int), x 7 + (g : Int), Y, Y + (dd : Int)) := ⟨_, rfl⟩
      have HX6 := Lib.hid (show ∀ w6, Keeps (fun i => (Value.slice C m q2).ownBlock = some i) (w5.alloc (.cells (cells4 (x 7 + (f : Int), x 7 + (g : Int), Y, Y + (dd : Int))).toArray 82)).drew w6 → (w6.cell? ⟨w.heap.size, 9, none⟩ = some (.int .i64 (x 7)) ∧ w6.cell? ⟨ad.block, ad.off + (j + 1), none⟩ = some (.int .i64 z1) ∧ w6.cell? ⟨ad.block, ad.off + (j + 3), none⟩ = some (.int .i64 z3)) ∧ Box w6 w.heap.size 27 (cells12 nm (.slice A n c) x).toArray ∧ Grew w w6 from fun w6 hk => by
        have hgd : Grew w5 (w5.alloc (.cells (cells4 (x 7 + (f : Int), x 7 + (g : Int), Y, Y + (dd : Int))).toArray 82)).drew := Keeps.drew ((Grew.refl w5).alloc _)
        have hMd := HM5.out.grew hgd
        have hBd := HB5.out.grew hgd
        have hGd := HG5.out.trans hgd
        obtain ⟨d7, d1, d3⟩ := HC5.out _ hgd
        have hB6 := hBd.keep hk (fun e => hMd.ne_box e hBd (by decide) rfl)
        have had : ad.block < (w5.alloc (.cells (cells4 (x 7 + (f : Int), x 7 + (g : Int), Y, Y + (dd : Int))).toArray 82)).drew.heap.size := Nat.lt_of_lt_of_le hadb hGd.size
        have hbk := hk.block ad.block had (fun e => by have := (hMd.lt _ e).1; omega)
        exact ⟨⟨hB6.cell 9, (World.cell?_of_block (a := ⟨ad.block, ad.off + (j + 1), none⟩) hbk).trans d1, (World.cell?_of_block (a := ⟨ad.block, ad.off + (j + 3), none⟩) hbk).trans d3⟩, hB6, Grew.appC hGd hMd hk⟩)
      clear hD D
      obtain ⟨c7, e1, e3⟩ := HC5.out w5 (Grew.refl w5)
      have HD5 := Lib.hid (HC5.out _ (Keeps.drew ((Grew.refl w5).alloc (.cells (cells4 (x 7 + (f : Int), x 7 + (g : Int), Y, Y + (dd : Int))).toArray 82))))
      have s5 : IntKind.i64.wrap (x 7 + (f : Int)) = x 7 + (f : Int) := IntWalk.i64_in _ (by omega)
      have s6 : IntKind.i64.wrap (x 8 - x 7) = x 8 - x 7 := IntWalk.i64_in _ (by omega)
      have s6' : IntKind.i64.wrap (x 8 - x 7 + 1 - 1) = x 8 - x 7 := by rw [IntWalk.i64_in _ (by omega)]; omega
      have s9 : IntKind.i64.wrap ((f : Int) + (r : Int)) = (f : Int) + (r : Int) := IntWalk.i64_in _ (by omega)
      have s10 : IntKind.i64.wrap (x 7 + (g : Int)) = x 7 + (g : Int) := IntWalk.i64_in _ (by omega)
      have s11 : IntKind.i64.wrap (Y + (dd : Int)) = Y + (dd : Int) := IntWalk.i64_in _ (by omega)
      have r1 : (0 : Int) ≤ (j : Int) + 1 := by omega
      have r3 : (0 : Int) ≤ (j : Int) + 3 := by omega
      have r1' : (j : Int) + 1 < (p : Int) := by omega
      have r3' : (j : Int) + 3 < (p : Int) := by omega
      have n1 : ((j : Int) + 1).toNat = j + 1 := by omega
      have n3 : ((j : Int) + 3).toNat = j + 3 := by omega
      have s7 : IntKind.i64.wrap ((j : Int) + 1) = (j : Int) + 1 := IntWalk.i64_in _ (by omega)
      have s8 : IntKind.i64.wrap ((j : Int) + 3) = (j : Int) + 3 := IntWalk.i64_in _ (by omega)
      clear hB5 hM5 hG5 hV
      go_upto_region 8 with fail
      go_region_held3 (fun w' => w'.cell? ⟨w.heap.size, 9, none⟩ = some (.int .i64 (x 7)) ∧ w'.cell? ⟨ad.block, ad.off + (j + 1), none⟩ = some (.int .i64 z1) ∧ w'.cell? ⟨ad.block, ad.off + (j + 3), none⟩ = some (.int .i64 z3)) (first | assumption | exact HC5.out _ (Keeps.drew (Grew.refl _)) | exact HD5.out)
        (first | (go_at_call 8; (with_reducible refine (HA1.out _).mono ?_); rintro e wq ⟨rfl, rfl⟩) | (go_at_call 8; (with_reducible refine (HA3.out _).mono ?_); rintro e wq ⟨rfl, rfl⟩) | ((refine step_oneC rfl (.tmp 53) (.tmp 82) rfl rfl ((HM5.out.alloc _).grew (Keeps.drew (Grew.refl _))) w5.heap.size 1 ((x 7 + (f : Int), x 7 + (g : Int), Y, Y + (dd : Int)) : Clm) 82 rfl (Nat.le_refl _) (Box.drew (Box.new w5 82 _)) hn5 (by simp; omega) ?_; intro r6 cap6 w6 hM6 hk6; have hS6 := (HX6.out _ hk6).1; have HB6 := Lib.hid (HX6.out _ hk6).2.1; have HG6 := Lib.hid (HX6.out _ hk6).2.2; have HM6 := Lib.hid hM6; clear hM6 hk6)))
      all_goals
        clear s5 s6 s6' s7 s8 s9 s10 s11 n1 n3
        rw [← HM.out] at HM6 ⊢
        go_wp2_with fail
        go_roundw
        case rel => exact ⟨j + 4, m + 1, _, cap6, cs ++ [_], by omega, by go_num, rfl, by rw [List.length_append, HM.out]; rfl, by omega, HV2.out, HM6.out, HB6.out, HG6.out⟩
        case measure => simp [intOf]; omega
    · have hex : decide ((j : Int) + 3 < (p : Int)) = false ∨ (decide ((j : Int) + 3 < (p : Int)) = true ∧ decide ((m : Int) < 4) = false) := by
        by_cases h1 : j + 3 < p
        · exact .inr ⟨by simp; omega, by simp; omega⟩
        · exact .inl (by simp; omega)
      clear hlt
      rcases hex with h1 | ⟨h1, h2⟩
      · go_wp2_with fail
        go_ret
        exact ⟨_, cs, rfl, hM, HF.out, by rw [← HM.out]; omega, hG⟩
      · go_wp2_with fail
        go_ret
        exact ⟨_, cs, rfl, hM, HF.out, by rw [← HM.out]; omega, hG⟩
end Go.Proofs.YtgkmfblmkfclbaaGreatDoor
