/- The reference: claims made from numbers: up to nine, each encodable. -/
import Derived.Test.YtgajmhpnilkmiaaDoorBlockIdsP21
import Derived.StillTailTactics
namespace Go.Proofs.YtgajmhpnilkmiaaDoor
open Go.RowKit Pl

def ClaimsPost (w : World) (e : Ending) (w' : World) : Prop :=
  ∃ v cs, e = .returned v ∧ MineC w' w.heap.size v cs ∧ (∀ c ∈ cs, okC c) ∧ cs.length ≤ 9 ∧ Grew w w'

theorem still_around (n : Int) (m : Nat) (w : World) (hn : I64 n) (hm : 0 < m) (hm2 : m ≤ 9223372036854775807) :
    Calls Tryd.prog 29 #[.int .i64 n, .int .i64 (m : Nat)] w fun e w' => e = .returned (.int .i64 (arnd n m : Nat)) ∧ w' = w :=
  (around_any n m w hn hm hm2).mono fun _ _ h => ⟨h.1, h.2.symm⟩
theorem still_bound (n : Int) (m : Nat) (w : World) (hn : I64 n) (hm : m ≤ 2305843009213693952) :
    Calls Tryd.prog 82 #[.int .i64 n, .int .i64 (m : Nat)] w fun e w' => e = .returned (.int .i64 (bnd n m)) ∧ w' = w :=
  (bound_any n m w hn hm).mono fun _ _ h => ⟨h.1, h.2.symm⟩

theorem arnd' (n m : Int) (w : World) (hn : I64 n) (hm : 0 < m) (hm2 : m ≤ 9223372036854775807) :
    Calls Tryd.prog 29 #[.int .i64 n, .int .i64 m] w fun e w' => e = .returned (.int .i64 (arnd n m.toNat : Nat)) ∧ w' = w := by
  have := still_around n m.toNat w hn (by omega) (by omega)
  rwa [Int.toNat_of_nonneg (by omega)] at this
theorem bnd' (n m : Int) (w : World) (hn : I64 n) (hm : 0 ≤ m) (hm2 : m ≤ 2305843009213693952) :
    Calls Tryd.prog 82 #[.int .i64 n, .int .i64 m] w fun e w' => e = .returned (.int .i64 (bnd n m.toNat)) ∧ w' = w := by
  have := still_bound n m.toNat w hn (by omega)
  rwa [Int.toNat_of_nonneg hm] at this
theorem ok_snoc {ac : List Clm} {d : Clm} (h : ∀ c ∈ ac, okC c) (hd : okC d) : ∀ c ∈ ac ++ [d], okC c := fun c hc => by
  rcases List.mem_append.1 hc with h1 | h1
  · exact h c h1
  · obtain rfl := List.mem_singleton.1 h1; exact hd
set_option maxHeartbeats 6400000 in
set_option maxRecDepth 100000 in
theorem claims_any (v : Value) (l : List Int) (w : World) (h : Rd w w.heap.size v (l.map vi)) (hi : ∀ x ∈ l, I64 x) (hl : l.length ≤ 1000000000000000) :
    Calls Tryd.prog 50 #[v] w (ClaimsPost w) := by
  obtain ⟨A, n, c, rfl, hn, hc⟩ := h.form
  rw [List.length_map] at hn
  have hnl : n ≤ 1000000000000000 := by omega
  have HN := Lib.hid hn
  have HI := Lib.hid hi
  have H := Lib.hid h
  have hbx0 : Box (w.alloc (.cells #[.int .i64 0, .int .i64 0, .int .i64 0, .int .i64 0] 116)) w.heap.size 116 (cells4 zc).toArray := Box.new w _ _
  have HB0 := Lib.hid hbx0
  clear hn hi h hbx0
  go_enter Tryd.func50, Tryd.ntmps50
  go_wp2_with fail
  go_loopw [3, 5] (fun x i wr => ∃ (j m : Nat) (A : Option Addr) (c : Nat) (d : Clm) (ac : List Clm), j ≤ n ∧ i = .int .i64 j ∧ x = .slice A m c ∧ m = ac.length ∧ m ≤ 9 ∧ (∀ c ∈ ac, okC c) ∧ MineC wr w.heap.size (.slice A m c) ac ∧ Off (.slice A m c) w.heap.size ∧ Box wr w.heap.size 116 (cells4 d).toArray ∧ Grew w wr)
    (fun _ i _ => n - (intOf i).toNat)
  case atStart => exact ⟨0, 0, none, 0, zc, [], by omega, rfl, rfl, rfl, by omega, by simp, MineC.nil _ _, Off.nil _, HB0.out, (Grew.refl w).alloc _⟩
  case round =>
    clear HB0
    obtain ⟨j, m, B, q, d, ac, hj, rfl, rfl, hm, hm9, hok, hM, hO, hb, hG⟩ := hrel
    have HM := Lib.hid hm
    have HOK := Lib.hid hok
    clear hm hok
    by_cases hlt : j + 3 < n ∧ m < 9
    · obtain ⟨hj3, hm8⟩ := hlt
      have hjl : j + 3 < l.length := by rw [← HN.out]; exact hj3
      have hR := H.out.grew (Nat.le_refl _) hG
      obtain ⟨ad, rfl, hadb, a0⟩ := hR.int_at (j := j) (by omega)
      obtain ⟨_, h1, _, a1⟩ := hR.int_at (j := j + 1) (by omega)
      obtain rfl := Option.some.inj h1
      obtain ⟨_, h2, _, a2⟩ := hR.int_at (j := j + 2) (by omega)
      obtain rfl := Option.some.inj h2
      obtain ⟨_, h3, _, a3⟩ := hR.int_at (j := j + 3) (by omega)
      obtain rfl := Option.some.inj h3
      have hcl : ∀ w' : World, Grew w w' → w'.cell? ⟨ad.block, ad.off + (j + 1), none⟩ = some (.int .i64 (l.getD (j + 1) 0)) ∧ w'.cell? ⟨ad.block, ad.off + (j + 2), none⟩ = some (.int .i64 (l.getD (j + 2) 0)) ∧ w'.cell? ⟨ad.block, ad.off + (j + 3), none⟩ = some (.int .i64 (l.getD (j + 3) 0)) := by
        intro w' hg
        have hR := H.out.grew (Nat.le_refl _) hg
        obtain ⟨_, h1, _, a1⟩ := hR.int_at (j := j + 1) (by omega)
        obtain rfl := Option.some.inj h1
        obtain ⟨_, h2, _, a2⟩ := hR.int_at (j := j + 2) (by omega)
        obtain rfl := Option.some.inj h2
        obtain ⟨_, h3, _, a3⟩ := hR.int_at (j := j + 3) (by omega)
        obtain rfl := Option.some.inj h3
        exact ⟨by simpa [Addr.add] using a1, by simpa [Addr.add] using a2, by simpa [Addr.add] using a3⟩
      have HCL := Lib.hid hcl
      clear hcl
      have i0 := getD_I64 HI.out j
      have i1 := getD_I64 HI.out (j + 1)
      have i2 := getD_I64 HI.out (j + 2)
      have i3 := getD_I64 HI.out (j + 3)
      clear h1 h2 h3 hjl hR
      generalize l.getD j 0 = x0 at *
      generalize l.getD (j + 1) 0 = x1 at *
      generalize l.getD (j + 2) 0 = x2 at *
      generalize l.getD (j + 3) 0 = x3 at *
      have a1' : wr.cell? ⟨ad.block, ad.off + (j + 1), none⟩ = some (.int .i64 x1) := by simpa [Addr.add] using a1
      have a2' : wr.cell? ⟨ad.block, ad.off + (j + 2), none⟩ = some (.int .i64 x2) := by simpa [Addr.add] using a2
      have a3' : wr.cell? ⟨ad.block, ad.off + (j + 3), none⟩ = some (.int .i64 x3) := by simpa [Addr.add] using a3
      have b1 : decide ((j : Int) + 3 < (n : Int)) = true := by simp; omega
      have b2 : decide ((m : Int) < 9) = true := by simp; omega
      have HA1 := Lib.hid (arnd' (wrap64 (x0.tdiv 8)) 38 wr (wrap_I64 _) (by omega) (by omega))
      have HA2 := Lib.hid (arnd' x0 8 wr i0 (by omega) (by omega))
      have hk8 := arnd_lt x0 (8 : Int).toNat (by decide)
      have he38 := arnd_lt (wrap64 (x0.tdiv 8)) (38 : Int).toNat (by decide)
      generalize arnd x0 (8 : Int).toNat = k at *
      generalize arnd (wrap64 (x0.tdiv 8)) (38 : Int).toNat = e38 at *
      go_wp2_with fail
      refine HA1.out.mono ?_
      rintro e w' ⟨rfl, hw'⟩
      rw [hw']; clear hw' w'
      go_wp2_with fail
      refine HA2.out.mono ?_
      rintro e w' ⟨rfl, hw'⟩
      rw [hw']; clear hw' w'
      clear HA1 HA2
      have s1 : IntKind.i64.wrap ((j : Int) + 1) = (j : Int) + 1 := IntWalk.i64_in _ (by omega)
      have s2 : IntKind.i64.wrap ((j : Int) + 2) = (j : Int) + 2 := IntWalk.i64_in _ (by omega)
      have s3 : IntKind.i64.wrap ((j : Int) + 3) = (j : Int) + 3 := IntWalk.i64_in _ (by omega)
      have r1 : (0 : Int) ≤ (j : Int) + 1 := by omega
      have r2 : (0 : Int) ≤ (j : Int) + 2 := by omega
      have r3 : (0 : Int) ≤ (j : Int) + 3 := by omega
      have r1' : (j : Int) + 1 < (n : Int) := by omega
      have r2' : (j : Int) + 2 < (n : Int) := by omega
      have r3' : (j : Int) + 3 < (n : Int) := by omega
      have r0' : (j : Int) < (n : Int) := by omega
      have n1 : ((j : Int) + 1).toNat = j + 1 := by omega
      have n2 : ((j : Int) + 2).toNat = j + 2 := by omega
      have n3 : ((j : Int) + 3).toNat = j + 3 := by omega
      have hcase : k = 0 ∨ k = 1 ∨ k = 2 ∨ k = 3 ∨ 4 ≤ k := by omega
      rcases hcase with rfl | rfl | rfl | rfl | hk4
      · clear hk8
        go_wp2_with fail
        refine wp_region_still_tail 24 (by kernel_rfl) (by kernel_rfl) ?_
        simp only [List.take_succ_cons, List.take_zero, List.drop_succ_cons, List.drop_zero]
        repeat still_step
        still_call (bnd' x0 1099511627776 _ i0 (by omega) (by omega))
        repeat still_step
        still_call (bnd' x1 1099511627776 _ i1 (by omega) (by omega))
        repeat still_step
        still_call (bnd' x2 1099511627776 _ i2 (by omega) (by omega))
        repeat still_step
        still_call (bnd' x3 1099511627776 _ i3 (by omega) (by omega))
        repeat still_step
        refine wpStill_nil ?_
        change wpList _ _ _ _ _ wr.drew
        refine st4v (.tmp 4) (.tmp 65) w.heap.size _ _ _ _ d 116 rfl rfl rfl rfl hb.drew ?_
        intro wA y hbA kA
        have hMA := MineC.keep (w := wr.drew) hM kA (fun i hi e => hO i hi e)
        have hGA : Grew w wA := Keeps.then_ (Keeps.drew hG) kA fun i hi e => by omega
        clear kA hM hb hG s1 s2 s3
        have HEc := rencodable_any y wA
        unfold vc cells4 at HEc
        have HEC := Lib.hid HEc
        obtain ⟨e0, e1, e2, e3⟩ := hbA.four
        have HB := Lib.hid hbA
        have HMM := Lib.hid hMA
        have HGG := Lib.hid hGA
        clear HEc hbA hMA hGA
        by_cases hokd : okC y
        · have HOK2 := Lib.hid (ok_snoc HOK.out hokd)
          have HD := Lib.hid (decide_eq_true hokd)
          clear hokd
          go_wp2_with fail
          refine HEC.out.mono ?_
          rintro e w5 ⟨rfl, q1⟩
          rw [HD.out]
          have hb5 := HB.out.grew q1
          have hM5 := HMM.out.grew q1
          have hG5 := HGG.out.trans q1
          have hs5 := hG5.size
          have hn5 : ac.length < 1099511627776 := by rw [← HM.out]; omega
          obtain ⟨f0, f1, f2, f3⟩ := hb5.four
          clear e0 e1 e2 e3 q1 HEC HD
          go_wp2_with (at_builtin; refine app_oneC rfl (.tmp 124) (.tmp 126) rfl rfl (hM5.alloc _) w5.heap.size 1 y 116 rfl (Nat.le_refl _) (Box.new w5 116 _) hn5 (by simp; omega) ?_)
          intro r cap w6 hM6 hk6 hr6 hbr6 hlr6
          have hb6 := (hb5.alloc _).asideC hO hk6
          have hG6 : Grew w w6 := Keeps.then_ (hG5.alloc _) hk6 fun i hi e => by have := (hM5.lt i e).1; omega
          have hO6 : Off (.slice (some ⟨r, 0, none⟩) (ac.length + 1) cap) w.heap.size := fun q hq e => by
            have hrq : r = q := by simpa [Value.ownBlock] using hq
            rcases hr6 with h1 | h1
            · exact hO _ h1.symm (hrq.trans e)
            · omega
          rw [← HM.out] at hM6 hO6 ⊢
          have HM6 := Lib.hid hM6
          have HB6 := Lib.hid hb6
          clear hb5 hM5 hG5 hM6 hk6 hr6 hb6 f0 f1 f2 f3
          go_wp2_with fail
          go_roundw
          case rel => exact ⟨j + 4, m + 1, _, _, y, ac ++ [y], by omega, by go_num, rfl, by rw [List.length_append, HM.out]; rfl, by omega, HOK2.out, HM6.out, hO6, HB6.out, hG6⟩
          case measure => simp [intOf]; omega
        · have HD := Lib.hid (decide_eq_false hokd)
          clear hokd
          go_wp2_with fail
          refine HEC.out.mono ?_
          rintro e w5 ⟨rfl, q1⟩
          rw [HD.out]
          have hb5 := HB.out.grew q1
          have hM5 := HMM.out.grew q1
          have hG5 := HGG.out.trans q1
          clear e0 e1 e2 e3 q1 HEC HD
          go_wp2_with fail
          go_roundw
          case rel => exact ⟨j + 4, m, _, _, y, ac, by omega, by go_num, rfl, HM.out, hm9, HOK.out, hM5, hO, hb5, hG5⟩
          case measure => simp [intOf]; omega
      · clear hk8
        go_wp2_with fail
        refine wp_region_still_tail 21 (by kernel_rfl) (by kernel_rfl) ?_
        simp only [List.take_succ_cons, List.take_zero, List.drop_succ_cons, List.drop_zero]
        repeat still_step
        still_call (arnd' x1 40 _ i1 (by omega) (by omega))
        repeat still_step
        still_call (bnd' x3 300 _ i3 (by omega) (by omega))
        repeat still_step
        refine wpStill_nil ?_
        change wpList _ _ _ _ _ wr.drew
        refine st4v (.tmp 4) (.tmp 88) w.heap.size _ _ _ _ d 116 rfl rfl rfl rfl hb.drew ?_
        intro wA y hbA kA
        have hMA := MineC.keep (w := wr.drew) hM kA (fun i hi e => hO i hi e)
        have hGA : Grew w wA := Keeps.then_ (Keeps.drew hG) kA fun i hi e => by omega
        clear kA hM hb hG s1 s2 s3
        have HEc := rencodable_any y wA
        unfold vc cells4 at HEc
        have HEC := Lib.hid HEc
        obtain ⟨e0, e1, e2, e3⟩ := hbA.four
        have HB := Lib.hid hbA
        have HMM := Lib.hid hMA
        have HGG := Lib.hid hGA
        clear HEc hbA hMA hGA
        by_cases hokd : okC y
        · have HOK2 := Lib.hid (ok_snoc HOK.out hokd)
          have HD := Lib.hid (decide_eq_true hokd)
          clear hokd
          go_wp2_with fail
          refine HEC.out.mono ?_
          rintro e w5 ⟨rfl, q1⟩
          rw [HD.out]
          have hb5 := HB.out.grew q1
          have hM5 := HMM.out.grew q1
          have hG5 := HGG.out.trans q1
          have hs5 := hG5.size
          have hn5 : ac.length < 1099511627776 := by rw [← HM.out]; omega
          obtain ⟨f0, f1, f2, f3⟩ := hb5.four
          clear e0 e1 e2 e3 q1 HEC HD
          go_wp2_with (at_builtin; refine app_oneC rfl (.tmp 124) (.tmp 126) rfl rfl (hM5.alloc _) w5.heap.size 1 y 116 rfl (Nat.le_refl _) (Box.new w5 116 _) hn5 (by simp; omega) ?_)
          intro r cap w6 hM6 hk6 hr6 hbr6 hlr6
          have hb6 := (hb5.alloc _).asideC hO hk6
          have hG6 : Grew w w6 := Keeps.then_ (hG5.alloc _) hk6 fun i hi e => by have := (hM5.lt i e).1; omega
          have hO6 : Off (.slice (some ⟨r, 0, none⟩) (ac.length + 1) cap) w.heap.size := fun q hq e => by
            have hrq : r = q := by simpa [Value.ownBlock] using hq
            rcases hr6 with h1 | h1
            · exact hO _ h1.symm (hrq.trans e)
            · omega
          rw [← HM.out] at hM6 hO6 ⊢
          have HM6 := Lib.hid hM6
          have HB6 := Lib.hid hb6
          clear hb5 hM5 hG5 hM6 hk6 hr6 hb6 f0 f1 f2 f3
          go_wp2_with fail
          go_roundw
          case rel => exact ⟨j + 4, m + 1, _, _, y, ac ++ [y], by omega, by go_num, rfl, by rw [List.length_append, HM.out]; rfl, by omega, HOK2.out, HM6.out, hO6, HB6.out, hG6⟩
          case measure => simp [intOf]; omega
        · have HD := Lib.hid (decide_eq_false hokd)
          clear hokd
          go_wp2_with fail
          refine HEC.out.mono ?_
          rintro e w5 ⟨rfl, q1⟩
          rw [HD.out]
          have hb5 := HB.out.grew q1
          have hM5 := HMM.out.grew q1
          have hG5 := HGG.out.trans q1
          clear e0 e1 e2 e3 q1 HEC HD
          go_wp2_with fail
          go_roundw
          case rel => exact ⟨j + 4, m, _, _, y, ac, by omega, by go_num, rfl, HM.out, hm9, HOK.out, hM5, hO, hb5, hG5⟩
          case measure => simp [intOf]; omega
      · clear hk8
        go_wp2_with fail
        obtain ⟨d01, d11, d21, d31⟩ := hb.four
        refine wp_region_still_tail 10 (by kernel_rfl) (by kernel_rfl) ?_
        simp only [List.take_succ_cons, List.take_zero, List.drop_succ_cons, List.drop_zero]
        repeat still_step
        still_call (arnd' x1 20 _ i1 (by omega) (by omega))
        repeat still_step
        refine wpStill_nil ?_
        change wpList _ _ _ _ _ wr.drew
        refine st1 (.tmp 101) (.tmp 100) w.heap.size 0 (by decide) _ d 116 rfl rfl rfl rfl hb.drew ?_
        intro wA y1 hbwA kwA
        have hMwA := MineC.keep (w := wr.drew) hM kwA (fun i hi e => hO i hi e)
        have hGwA : Grew w wA := Keeps.then_ (Keeps.drew hG) kwA fun i hi e => by omega
        clear kwA hM hb hG d01 d11 d21 d31 a1' a2' a3' a0 a1 a2 a3
        obtain ⟨a1', a2', a3'⟩ := HCL.out wA hGwA
        go_wp2_with fail
        obtain ⟨d02, d12, d22, d32⟩ := hbwA.four
        refine wp_region_still_tail 10 (by kernel_rfl) (by kernel_rfl) ?_
        simp only [List.take_succ_cons, List.take_zero, List.drop_succ_cons, List.drop_zero]
        repeat still_step
        still_call (arnd' x2 3 _ i2 (by omega) (by omega))
        repeat still_step
        refine wpStill_nil ?_
        change wpList _ _ _ _ _ wA.drew
        refine st1 (.tmp 111) (.tmp 110) w.heap.size 1 (by decide) _ y1 116 rfl rfl rfl rfl hbwA.drew ?_
        intro wB y2 hbwB kwB
        have hMwB := MineC.keep (w := wA.drew) hMwA kwB (fun i hi e => hO i hi e)
        have hGwB : Grew w wB := Keeps.then_ (Keeps.drew hGwA) kwB fun i hi e => by omega
        clear kwB hMwA hbwA hGwA d02 d12 d22 d32 a1' a2' a3'
        obtain ⟨a1', a2', a3'⟩ := HCL.out wB hGwB
        go_wp2_with fail
        obtain ⟨d03, d13, d23, d33⟩ := hbwB.four
        refine wp_region_still_tail 10 (by kernel_rfl) (by kernel_rfl) ?_
        simp only [List.take_succ_cons, List.take_zero, List.drop_succ_cons, List.drop_zero]
        repeat still_step
        still_call (arnd' x3 9 _ i3 (by omega) (by omega))
        repeat still_step
        refine wpStill_nil ?_
        change wpList _ _ _ _ _ wB.drew
        refine st1 (.tmp 121) (.tmp 120) w.heap.size 3 (by decide) _ y2 116 rfl rfl rfl rfl hbwB.drew ?_
        intro wC y3 hbwC kwC
        have hMwC := MineC.keep (w := wB.drew) hMwB kwC (fun i hi e => hO i hi e)
        have hGwC : Grew w wC := Keeps.then_ (Keeps.drew hGwB) kwC fun i hi e => by omega
        clear kwC hMwB hbwB hGwB d03 d13 d23 d33 a1' a2' a3'
        obtain ⟨a1', a2', a3'⟩ := HCL.out wC hGwC
        clear s1 s2 s3
        have HEc := rencodable_any y3 wC
        unfold vc cells4 at HEc
        have HEC := Lib.hid HEc
        obtain ⟨e0, e1, e2, e3⟩ := hbwC.four
        have HB := Lib.hid hbwC
        have HMM := Lib.hid hMwC
        have HGG := Lib.hid hGwC
        clear HEc hbwC hMwC hGwC
        by_cases hokd : okC y3
        · have HOK2 := Lib.hid (ok_snoc HOK.out hokd)
          have HD := Lib.hid (decide_eq_true hokd)
          clear hokd
          go_wp2_with fail
          refine HEC.out.mono ?_
          rintro e w5 ⟨rfl, q1⟩
          rw [HD.out]
          have hb5 := HB.out.grew q1
          have hM5 := HMM.out.grew q1
          have hG5 := HGG.out.trans q1
          have hs5 := hG5.size
          have hn5 : ac.length < 1099511627776 := by rw [← HM.out]; omega
          obtain ⟨f0, f1, f2, f3⟩ := hb5.four
          clear e0 e1 e2 e3 q1 HEC HD
          go_wp2_with (at_builtin; refine app_oneC rfl (.tmp 124) (.tmp 126) rfl rfl (hM5.alloc _) w5.heap.size 1 y3 116 rfl (Nat.le_refl _) (Box.new w5 116 _) hn5 (by simp; omega) ?_)
          intro r cap w6 hM6 hk6 hr6 hbr6 hlr6
          have hb6 := (hb5.alloc _).asideC hO hk6
          have hG6 : Grew w w6 := Keeps.then_ (hG5.alloc _) hk6 fun i hi e => by have := (hM5.lt i e).1; omega
          have hO6 : Off (.slice (some ⟨r, 0, none⟩) (ac.length + 1) cap) w.heap.size := fun q hq e => by
            have hrq : r = q := by simpa [Value.ownBlock] using hq
            rcases hr6 with h1 | h1
            · exact hO _ h1.symm (hrq.trans e)
            · omega
          rw [← HM.out] at hM6 hO6 ⊢
          have HM6 := Lib.hid hM6
          have HB6 := Lib.hid hb6
          clear hb5 hM5 hG5 hM6 hk6 hr6 hb6 f0 f1 f2 f3
          go_wp2_with fail
          go_roundw
          case rel => exact ⟨j + 4, m + 1, _, _, y3, ac ++ [y3], by omega, by go_num, rfl, by rw [List.length_append, HM.out]; rfl, by omega, HOK2.out, HM6.out, hO6, HB6.out, hG6⟩
          case measure => simp [intOf]; omega
        · have HD := Lib.hid (decide_eq_false hokd)
          clear hokd
          go_wp2_with fail
          refine HEC.out.mono ?_
          rintro e w5 ⟨rfl, q1⟩
          rw [HD.out]
          have hb5 := HB.out.grew q1
          have hM5 := HMM.out.grew q1
          have hG5 := HGG.out.trans q1
          clear e0 e1 e2 e3 q1 HEC HD
          go_wp2_with fail
          go_roundw
          case rel => exact ⟨j + 4, m, _, _, y3, ac, by omega, by go_num, rfl, HM.out, hm9, HOK.out, hM5, hO, hb5, hG5⟩
          case measure => simp [intOf]; omega
      · clear hk8
        go_wp2_with fail
        obtain ⟨d01, d11, d21, d31⟩ := hb.four
        refine wp_region_still_tail 10 (by kernel_rfl) (by kernel_rfl) ?_
        simp only [List.take_succ_cons, List.take_zero, List.drop_succ_cons, List.drop_zero]
        repeat still_step
        still_call (arnd' x1 20 _ i1 (by omega) (by omega))
        repeat still_step
        refine wpStill_nil ?_
        change wpList _ _ _ _ _ wr.drew
        refine st1 (.tmp 101) (.tmp 100) w.heap.size 0 (by decide) _ d 116 rfl rfl rfl rfl hb.drew ?_
        intro wA y1 hbwA kwA
        have hMwA := MineC.keep (w := wr.drew) hM kwA (fun i hi e => hO i hi e)
        have hGwA : Grew w wA := Keeps.then_ (Keeps.drew hG) kwA fun i hi e => by omega
        clear kwA hM hb hG d01 d11 d21 d31 a1' a2' a3' a0 a1 a2 a3
        obtain ⟨a1', a2', a3'⟩ := HCL.out wA hGwA
        go_wp2_with fail
        obtain ⟨d02, d12, d22, d32⟩ := hbwA.four
        refine wp_region_still_tail 10 (by kernel_rfl) (by kernel_rfl) ?_
        simp only [List.take_succ_cons, List.take_zero, List.drop_succ_cons, List.drop_zero]
        repeat still_step
        still_call (arnd' x2 3 _ i2 (by omega) (by omega))
        repeat still_step
        refine wpStill_nil ?_
        change wpList _ _ _ _ _ wA.drew
        refine st1 (.tmp 111) (.tmp 110) w.heap.size 1 (by decide) _ y1 116 rfl rfl rfl rfl hbwA.drew ?_
        intro wB y2 hbwB kwB
        have hMwB := MineC.keep (w := wA.drew) hMwA kwB (fun i hi e => hO i hi e)
        have hGwB : Grew w wB := Keeps.then_ (Keeps.drew hGwA) kwB fun i hi e => by omega
        clear kwB hMwA hbwA hGwA d02 d12 d22 d32 a1' a2' a3'
        obtain ⟨a1', a2', a3'⟩ := HCL.out wB hGwB
        go_wp2_with fail
        obtain ⟨d03, d13, d23, d33⟩ := hbwB.four
        refine wp_region_still_tail 10 (by kernel_rfl) (by kernel_rfl) ?_
        simp only [List.take_succ_cons, List.take_zero, List.drop_succ_cons, List.drop_zero]
        repeat still_step
        still_call (arnd' x3 9 _ i3 (by omega) (by omega))
        repeat still_step
        refine wpStill_nil ?_
        change wpList _ _ _ _ _ wB.drew
        refine st1 (.tmp 121) (.tmp 120) w.heap.size 3 (by decide) _ y2 116 rfl rfl rfl rfl hbwB.drew ?_
        intro wC y3 hbwC kwC
        have hMwC := MineC.keep (w := wB.drew) hMwB kwC (fun i hi e => hO i hi e)
        have hGwC : Grew w wC := Keeps.then_ (Keeps.drew hGwB) kwC fun i hi e => by omega
        clear kwC hMwB hbwB hGwB d03 d13 d23 d33 a1' a2' a3'
        obtain ⟨a1', a2', a3'⟩ := HCL.out wC hGwC
        clear s1 s2 s3
        have HEc := rencodable_any y3 wC
        unfold vc cells4 at HEc
        have HEC := Lib.hid HEc
        obtain ⟨e0, e1, e2, e3⟩ := hbwC.four
        have HB := Lib.hid hbwC
        have HMM := Lib.hid hMwC
        have HGG := Lib.hid hGwC
        clear HEc hbwC hMwC hGwC
        by_cases hokd : okC y3
        · have HOK2 := Lib.hid (ok_snoc HOK.out hokd)
          have HD := Lib.hid (decide_eq_true hokd)
          clear hokd
          go_wp2_with fail
          refine HEC.out.mono ?_
          rintro e w5 ⟨rfl, q1⟩
          rw [HD.out]
          have hb5 := HB.out.grew q1
          have hM5 := HMM.out.grew q1
          have hG5 := HGG.out.trans q1
          have hs5 := hG5.size
          have hn5 : ac.length < 1099511627776 := by rw [← HM.out]; omega
          obtain ⟨f0, f1, f2, f3⟩ := hb5.four
          clear e0 e1 e2 e3 q1 HEC HD
          go_wp2_with (at_builtin; refine app_oneC rfl (.tmp 124) (.tmp 126) rfl rfl (hM5.alloc _) w5.heap.size 1 y3 116 rfl (Nat.le_refl _) (Box.new w5 116 _) hn5 (by simp; omega) ?_)
          intro r cap w6 hM6 hk6 hr6 hbr6 hlr6
          have hb6 := (hb5.alloc _).asideC hO hk6
          have hG6 : Grew w w6 := Keeps.then_ (hG5.alloc _) hk6 fun i hi e => by have := (hM5.lt i e).1; omega
          have hO6 : Off (.slice (some ⟨r, 0, none⟩) (ac.length + 1) cap) w.heap.size := fun q hq e => by
            have hrq : r = q := by simpa [Value.ownBlock] using hq
            rcases hr6 with h1 | h1
            · exact hO _ h1.symm (hrq.trans e)
            · omega
          rw [← HM.out] at hM6 hO6 ⊢
          have HM6 := Lib.hid hM6
          have HB6 := Lib.hid hb6
          clear hb5 hM5 hG5 hM6 hk6 hr6 hb6 f0 f1 f2 f3
          go_wp2_with fail
          go_roundw
          case rel => exact ⟨j + 4, m + 1, _, _, y3, ac ++ [y3], by omega, by go_num, rfl, by rw [List.length_append, HM.out]; rfl, by omega, HOK2.out, HM6.out, hO6, HB6.out, hG6⟩
          case measure => simp [intOf]; omega
        · have HD := Lib.hid (decide_eq_false hokd)
          clear hokd
          go_wp2_with fail
          refine HEC.out.mono ?_
          rintro e w5 ⟨rfl, q1⟩
          rw [HD.out]
          have hb5 := HB.out.grew q1
          have hM5 := HMM.out.grew q1
          have hG5 := HGG.out.trans q1
          clear e0 e1 e2 e3 q1 HEC HD
          go_wp2_with fail
          go_roundw
          case rel => exact ⟨j + 4, m, _, _, y3, ac, by omega, by go_num, rfl, HM.out, hm9, HOK.out, hM5, hO, hb5, hG5⟩
          case measure => simp [intOf]; omega
      · have t0 : ((k : Int) == 0) = false := by rw [beq_eq_false_iff_ne]; omega
        have t1 : ((k : Int) == 1) = false := by rw [beq_eq_false_iff_ne]; omega
        have t2 : ((k : Int) == 2) = false := by rw [beq_eq_false_iff_ne]; omega
        have t3 : ((k : Int) == 3) = false := by rw [beq_eq_false_iff_ne]; omega
        clear s1 s2 s3
        obtain ⟨d0, d1, d2, d3⟩ := hb.four
        go_wp2_with (first | (refine st1 (.tmp 35) (.tmp 34) w.heap.size 0 (by decide) (wrap64 (d.1 + 5)) d 116 rfl rfl rfl rfl hb ?_; intro wA y1 hbA kA; obtain ⟨f0, f1, f2, f3⟩ := hbA.four) | (refine st1 (.tmp 39) (.tmp 38) w.heap.size 1 (by decide) (wrap64 (y1.2.1 + 5)) y1 116 rfl rfl rfl rfl hbA ?_; intro wB y hbB kB; obtain ⟨g0, g1, g2, g3⟩ := hbB.four))
        have hMB := (MineC.keep hM kA (fun i hi e => hO i hi e)).keep kB (fun i hi e => hO i hi e)
        have hGB : Grew w wB := Keeps.then_ (Keeps.then_ hG kA fun i hi e => by omega) kB fun i hi e => by omega
        clear kA hM hb hG d0 d1 d2 d3 kB hbA f0 f1 f2 f3 g0 g1 g2 g3
        have HEc := rencodable_any y wB
        unfold vc cells4 at HEc
        have HEC := Lib.hid HEc
        obtain ⟨e0, e1, e2, e3⟩ := hbB.four
        have HB := Lib.hid hbB
        have HMM := Lib.hid hMB
        have HGG := Lib.hid hGB
        clear HEc hbB hMB hGB
        by_cases hokd : okC y
        · have HOK2 := Lib.hid (ok_snoc HOK.out hokd)
          have HD := Lib.hid (decide_eq_true hokd)
          clear hokd
          go_wp2_with fail
          refine HEC.out.mono ?_
          rintro e w5 ⟨rfl, q1⟩
          rw [HD.out]
          have hb5 := HB.out.grew q1
          have hM5 := HMM.out.grew q1
          have hG5 := HGG.out.trans q1
          have hs5 := hG5.size
          have hn5 : ac.length < 1099511627776 := by rw [← HM.out]; omega
          obtain ⟨f0, f1, f2, f3⟩ := hb5.four
          clear e0 e1 e2 e3 q1 HEC HD
          go_wp2_with (at_builtin; refine app_oneC rfl (.tmp 124) (.tmp 126) rfl rfl (hM5.alloc _) w5.heap.size 1 y 116 rfl (Nat.le_refl _) (Box.new w5 116 _) hn5 (by simp; omega) ?_)
          intro r cap w6 hM6 hk6 hr6 hbr6 hlr6
          have hb6 := (hb5.alloc _).asideC hO hk6
          have hG6 : Grew w w6 := Keeps.then_ (hG5.alloc _) hk6 fun i hi e => by have := (hM5.lt i e).1; omega
          have hO6 : Off (.slice (some ⟨r, 0, none⟩) (ac.length + 1) cap) w.heap.size := fun q hq e => by
            have hrq : r = q := by simpa [Value.ownBlock] using hq
            rcases hr6 with h1 | h1
            · exact hO _ h1.symm (hrq.trans e)
            · omega
          rw [← HM.out] at hM6 hO6 ⊢
          have HM6 := Lib.hid hM6
          have HB6 := Lib.hid hb6
          clear hb5 hM5 hG5 hM6 hk6 hr6 hb6 f0 f1 f2 f3
          go_wp2_with fail
          go_roundw
          case rel => exact ⟨j + 4, m + 1, _, _, y, ac ++ [y], by omega, by go_num, rfl, by rw [List.length_append, HM.out]; rfl, by omega, HOK2.out, HM6.out, hO6, HB6.out, hG6⟩
          case measure => simp [intOf]; omega
        · have HD := Lib.hid (decide_eq_false hokd)
          clear hokd
          go_wp2_with fail
          refine HEC.out.mono ?_
          rintro e w5 ⟨rfl, q1⟩
          rw [HD.out]
          have hb5 := HB.out.grew q1
          have hM5 := HMM.out.grew q1
          have hG5 := HGG.out.trans q1
          clear e0 e1 e2 e3 q1 HEC HD
          go_wp2_with fail
          go_roundw
          case rel => exact ⟨j + 4, m, _, _, y, ac, by omega, by go_num, rfl, HM.out, hm9, HOK.out, hM5, hO, hb5, hG5⟩
          case measure => simp [intOf]; omega
    · have hex : decide ((j : Int) + 3 < (n : Int)) = false ∨ (decide ((j : Int) + 3 < (n : Int)) = true ∧ decide ((m : Int) < 9) = false) := by
        by_cases h1 : j + 3 < n
        · exact .inr ⟨by simp; omega, by simp; omega⟩
        · exact .inl (by simp; omega)
      clear hlt
      rcases hex with h1 | ⟨h1, h2⟩
      · go_wp2_with fail
        go_ret
        exact ⟨_, ac, rfl, hM, HOK.out, by rw [← HM.out]; exact hm9, hG⟩
      · go_wp2_with fail
        go_ret
        exact ⟨_, ac, rfl, hM, HOK.out, by rw [← HM.out]; exact hm9, hG⟩
end Go.Proofs.YtgajmhpnilkmiaaDoor
