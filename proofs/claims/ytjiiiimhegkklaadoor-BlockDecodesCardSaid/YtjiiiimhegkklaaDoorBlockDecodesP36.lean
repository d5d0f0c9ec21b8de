/- Blocks compared: slices.Equal at claims, block.Equal, the reference's Same. The reference: the bytes of numbers and of byte slices (package wire's model). The reference of chapter 18: Whole. The reference of chapter 18: Core. -/
import Derived.Test.YtjiiiimhegkklaaDoorBlockDecodesP24
import Derived.Test.YtjiiiimhegkklaaDoorBlockDecodesP35
import Derived.Test.YtjiiiimhegkklaaDoorBlockDecodesP21
import Derived.Test.YtjiiiimhegkklaaDoorBlockDecodesP08
import Derived.Test.YtjiiiimhegkklaaDoorBlockDecodesP32
namespace Go.Proofs.YtjiiiimhegkklaaDoor
open Go.RowKit Pl

set_option maxHeartbeats 3200000 in
set_option maxRecDepth 100000 in
theorem equalC_any (v u : Value) (xs ys : List Clm) (w : World) (h : RdC w w.heap.size v xs) (k : RdC w w.heap.size u ys) (hl : xs.length ≤ 1099511627776) (hl' : ys.length ≤ 1099511627776) :
    Calls Tryd.prog 77 #[v, u] w fun e w' => e = .returned (.bool (decide (xs = ys))) ∧ ∃ n, w' = w.drewN n := by
  obtain ⟨A, n, c, rfl, hn, hc⟩ := h.form
  obtain ⟨B, n', d, rfl, hn', hd⟩ := k.form
  have hnl : n ≤ 1099511627776 := by omega
  have hnl' : n' ≤ 1099511627776 := by omega
  have HN := Lib.hid hn
  have HN' := Lib.hid hn'
  by_cases hne : n ≠ n'
  · have t0 : ((n : Int) != (n' : Int)) = true := by rw [bne_iff_ne]; omega
    have hD : decide (xs = ys) = false := by
      rw [decide_eq_false_iff_not]
      rintro rfl
      omega
    have HD := Lib.hid hD
    clear hn hn' hne hD
    go_enter Tryd.func77, Tryd.ntmps77
    go_wp2_with fail
    go_ret
    exact ⟨by rw [HD.out]; rfl, 0, rfl⟩
  obtain rfl : n = n' := by omega
  clear hn hn' hne
  have t0 : ((n : Int) != (n : Int)) = false := by simp
  go_enter Tryd.func77, Tryd.ntmps77
  go_wp2_with fail
  go_loopw [13] (fun i wr => ∃ (j m : Nat), j ≤ n ∧ i = .int .i64 j ∧ wr = w.drewN m ∧ xs.take j = ys.take j) (fun i _ => n - (intOf i).toNat)
  case atStart => exact ⟨0, 0, by omega, rfl, rfl, by simp⟩
  case round =>
    obtain ⟨j, m, hj, rfl, rfl, htake⟩ := hrel
    have HTK := Lib.hid htake
    clear htake
    by_cases hlt : j < n
    · have hjx : j < xs.length := by rw [← HN.out]; exact hlt
      have hjy : j < ys.length := by rw [← HN'.out]; exact hlt
      obtain ⟨b1, o1, rfl, hb1, x0, x1, x2, x3⟩ := h.four hjx
      obtain ⟨b2, o2, rfl, hb2, y0, y1, y2, y3⟩ := k.four hjy
      have ex : xs[j]? = some (xs.getD j zc) := by rw [List.getD_eq_getElem?_getD, List.getElem?_eq_getElem hjx]; rfl
      have ey : ys[j]? = some (ys.getD j zc) := by rw [List.getD_eq_getElem?_getD, List.getElem?_eq_getElem hjy]; rfl
      have HX := Lib.hid ex
      have HY := Lib.hid ey
      clear ex ey hjx hjy
      generalize xs.getD j zc = x at *
      generalize ys.getD j zc = y at *
      by_cases hxy : x = y
      · subst hxy
        have HS := Lib.hid (take_eq_step HTK.out (HX.out.trans HY.out.symm))
        have hnq := neq4 x x true (by simp)
        go_wp2_with fail
        go_quiet (fail)
        go_wp2_with fail
        go_roundw
        case rel => exact ⟨j + 1, _, by omega, by go_num, rfl, HS.out⟩
        case measure => simp [intOf]; omega
      · have hD : decide (xs = ys) = false := by
          rw [decide_eq_false_iff_not]
          rintro rfl
          have := HX.out.symm.trans HY.out
          exact hxy (Option.some.inj this)
        have HD := Lib.hid hD
        have hnq := neq4 x y false (by simpa using hxy)
        clear hD hxy
        go_wp2_with fail
        go_quiet (fail)
        go_wp2_with fail
        go_ret
        exact ⟨by rw [HD.out]; rfl, _, World.drewN_drewN _ _ _⟩
    · have hD : decide (xs = ys) = true := by
        rw [decide_eq_true_eq]
        have := HTK.out
        rwa [List.take_of_length_le (by rw [← HN.out]; omega), List.take_of_length_le (by rw [← HN'.out]; omega)] at this
      have HD := Lib.hid hD
      clear hD
      go_wp2_with fail
      go_ret
      exact ⟨by rw [HD.out]; rfl, _, rfl⟩

set_option maxHeartbeats 6400000 in
set_option maxRecDepth 100000 in
theorem bequal_any (x y : Clm) (v u : Value) (xs ys : List Clm) (w : World) (h : RdC w w.heap.size v xs) (k : RdC w w.heap.size u ys) (hl : xs.length ≤ 1099511627776) (hl' : ys.length ≤ 1099511627776) :
    Calls Tryd.prog 32 #[vbl x v, vbl y u] w fun e w' => e = .returned (.bool (decide (x = y ∧ xs = ys))) ∧ Grew w w' := by
  have HG := Lib.hid (((Grew.refl w).alloc (.cells (cells5 x v).toArray 35)).alloc (.cells (cells5 y u).toArray 35))
  have HB := Lib.hid ((Box.new w 35 (cells5 x v).toArray).alloc (.cells (cells5 y u).toArray 35))
  have HN := Lib.hid (Box.new (w.alloc (.cells (cells5 x v).toArray 35)) 35 (cells5 y u).toArray)
  rw [World.size_alloc] at HN
  have hsz := HG.out.size
  have HE := Lib.hid (equalC_any v u xs ys _ ((h.grew (Nat.le_refl _) HG.out).more hsz) ((k.grew (Nat.le_refl _) HG.out).more hsz) hl hl')
  obtain ⟨A, n, c, rfl, hn, hc⟩ := h.form
  obtain ⟨B, n', d, rfl, hn', hd⟩ := k.form
  obtain ⟨D, hD⟩ : ∃ D, D = decide (x = y ∧ xs = ys) := ⟨_, rfl⟩
  rw [← hD]
  have no : ¬ (x = y) → D = false := fun e => by rw [hD, decide_eq_false_iff_not]; exact fun e2 => e e2.1
  have NO := Lib.hid no
  have HD := Lib.hid hD
  clear hD no hn hn' h k hc hd
  unfold vbl
  go_enter Tryd.func32, Tryd.ntmps32
  go_upto_region 1 with fail
  change Code.wp _ _ _ _ ((w.alloc (.cells (cells5 x (.slice A n c)).toArray 35)).alloc (.cells (cells5 y (.slice B n' d)).toArray 35))
  generalize (w.alloc (.cells (cells5 x (.slice A n c)).toArray 35)).alloc (.cells (cells5 y (.slice B n' d)).toArray 35) = w1 at *
  obtain ⟨c0, c1, c2, c3, c4⟩ := HB.out.five
  obtain ⟨d0, d1, d2, d3, d4⟩ := HN.out.five
  by_cases h0 : x.1 = y.1
  rotate_left
  · obtain rfl := NO.out (fun e => h0 (by rw [e]))
    have t0 : (x.1 == y.1) = false := by simp [h0]
    clear NO HD
    go_wp2_with fail
    go_ret
    exact ⟨rfl, HG.out⟩
  have t0 : (x.1 == y.1) = true := by simp [h0]
  have H0 := Lib.hid h0
  clear h0
  by_cases h1 : x.2.1 = y.2.1
  rotate_left
  · obtain rfl := NO.out (fun e => h1 (by rw [e]))
    have t1 : (x.2.1 == y.2.1) = false := by simp [h1]
    clear NO HD
    go_wp2_with fail
    go_ret
    exact ⟨rfl, HG.out⟩
  have t1 : (x.2.1 == y.2.1) = true := by simp [h1]
  have H1 := Lib.hid h1
  clear h1
  by_cases h2 : x.2.2.1 = y.2.2.1
  rotate_left
  · obtain rfl := NO.out (fun e => h2 (by rw [e]))
    have t2 : (x.2.2.1 == y.2.2.1) = false := by simp [h2]
    clear NO HD
    go_wp2_with fail
    go_ret
    exact ⟨rfl, HG.out⟩
  have t2 : (x.2.2.1 == y.2.2.1) = true := by simp [h2]
  have H2 := Lib.hid h2
  clear h2
  by_cases h3 : x.2.2.2 = y.2.2.2
  rotate_left
  · obtain rfl := NO.out (fun e => h3 (by rw [e]))
    have t3 : (x.2.2.2 == y.2.2.2) = false := by simp [h3]
    clear NO HD
    go_wp2_with fail
    go_ret
    exact ⟨rfl, HG.out⟩
  have t3 : (x.2.2.2 == y.2.2.2) = true := by simp [h3]
  have H3 := Lib.hid h3
  clear h3
  have hxy : x = y := by
    obtain ⟨x0, x1, x2, x3⟩ := x
    obtain ⟨y0, y1, y2, y3⟩ := y
    have e0 := H0.out
    have e1 := H1.out
    have e2 := H2.out
    have e3 := H3.out
    simp only at e0 e1 e2 e3
    rw [e0, e1, e2, e3]
  have hDD : D = decide (xs = ys) := by rw [HD.out]; simp [hxy]
  have HDD := Lib.hid hDD
  clear hxy hDD NO HD H0 H1 H2 H3
  go_wp2_with fail
  refine HE.out.mono ?_
  rintro e w2 ⟨rfl, n2, h2⟩
  have g2 : Grew w1 w2 := by rw [h2]; exact (Grew.refl w1).drewN n2
  rw [← HDD.out]
  clear h2 HDD
  go_wp2_with fail
  go_ret
  exact ⟨rfl, HG.out.trans g2⟩

set_option maxHeartbeats 6400000 in
set_option maxRecDepth 100000 in
theorem rbsame_any (x y : Clm) (v u : Value) (xs ys : List Clm) (w : World) (h : RdC w w.heap.size v xs) (k : RdC w w.heap.size u ys) (hl : xs.length ≤ 1099511627776) (hl' : ys.length ≤ 1099511627776) :
    Calls Tryd.prog 31 #[vbl x v, vbl y u] w fun e w' => e = .returned (.bool (decide (x = y ∧ xs = ys))) ∧ Grew w w' := by
  have HG := Lib.hid (((Grew.refl w).alloc (.cells (cells5 x v).toArray 27)).alloc (.cells (cells5 y u).toArray 27))
  have HB := Lib.hid ((Box.new w 27 (cells5 x v).toArray).alloc (.cells (cells5 y u).toArray 27))
  have HN := Lib.hid (Box.new (w.alloc (.cells (cells5 x v).toArray 27)) 27 (cells5 y u).toArray)
  rw [World.size_alloc] at HN
  have hsz := HG.out.size
  have HE := Lib.hid (sameC_any v u xs ys _ ((h.grew (Nat.le_refl _) HG.out).more hsz) ((k.grew (Nat.le_refl _) HG.out).more hsz) hl hl')
  obtain ⟨A, n, c, rfl, hn, hc⟩ := h.form
  obtain ⟨B, n', d, rfl, hn', hd⟩ := k.form
  obtain ⟨D, hD⟩ : ∃ D, D = decide (x = y ∧ xs = ys) := ⟨_, rfl⟩
  rw [← hD]
  have no : ¬ (x = y) → D = false := fun e => by rw [hD, decide_eq_false_iff_not]; exact fun e2 => e e2.1
  have NO := Lib.hid no
  have HD := Lib.hid hD
  clear hD no hn hn' h k hc hd
  unfold vbl
  go_enter Tryd.func31, Tryd.ntmps31
  go_upto_region 1 with fail
  change Code.wp _ _ _ _ ((w.alloc (.cells (cells5 x (.slice A n c)).toArray 27)).alloc (.cells (cells5 y (.slice B n' d)).toArray 27))
  generalize (w.alloc (.cells (cells5 x (.slice A n c)).toArray 27)).alloc (.cells (cells5 y (.slice B n' d)).toArray 27) = w1 at *
  obtain ⟨c0, c1, c2, c3, c4⟩ := HB.out.five
  obtain ⟨d0, d1, d2, d3, d4⟩ := HN.out.five
  by_cases h0 : x.1 = y.1
  rotate_left
  · obtain rfl := NO.out (fun e => h0 (by rw [e]))
    have t0 : (x.1 == y.1) = false := by simp [h0]
    clear NO HD
    go_wp2_with fail
    go_ret
    exact ⟨rfl, HG.out⟩
  have t0 : (x.1 == y.1) = true := by simp [h0]
  have H0 := Lib.hid h0
  clear h0
  by_cases h1 : x.2.1 = y.2.1
  rotate_left
  · obtain rfl := NO.out (fun e => h1 (by rw [e]))
    have t1 : (x.2.1 == y.2.1) = false := by simp [h1]
    clear NO HD
    go_wp2_with fail
    go_ret
    exact ⟨rfl, HG.out⟩
  have t1 : (x.2.1 == y.2.1) = true := by simp [h1]
  have H1 := Lib.hid h1
  clear h1
  by_cases h2 : x.2.2.1 = y.2.2.1
  rotate_left
  · obtain rfl := NO.out (fun e => h2 (by rw [e]))
    have t2 : (x.2.2.1 == y.2.2.1) = false := by simp [h2]
    clear NO HD
    go_wp2_with fail
    go_ret
    exact ⟨rfl, HG.out⟩
  have t2 : (x.2.2.1 == y.2.2.1) = true := by simp [h2]
  have H2 := Lib.hid h2
  clear h2
  by_cases h3 : x.2.2.2 = y.2.2.2
  rotate_left
  · obtain rfl := NO.out (fun e => h3 (by rw [e]))
    have t3 : (x.2.2.2 == y.2.2.2) = false := by simp [h3]
    clear NO HD
    go_wp2_with fail
    go_ret
    exact ⟨rfl, HG.out⟩
  have t3 : (x.2.2.2 == y.2.2.2) = true := by simp [h3]
  have H3 := Lib.hid h3
  clear h3
  have hxy : x = y := by
    obtain ⟨x0, x1, x2, x3⟩ := x
    obtain ⟨y0, y1, y2, y3⟩ := y
    have e0 := H0.out
    have e1 := H1.out
    have e2 := H2.out
    have e3 := H3.out
    simp only at e0 e1 e2 e3
    rw [e0, e1, e2, e3]
  have hDD : D = decide (xs = ys) := by rw [HD.out]; simp [hxy]
  have HDD := Lib.hid hDD
  clear hxy hDD NO HD H0 H1 H2 H3
  go_wp2_with fail
  refine HE.out.mono ?_
  rintro e w2 ⟨rfl, n2, h2⟩
  have g2 : Grew w1 w2 := by rw [h2]; exact (Grew.refl w1).drewN n2
  rw [← HDD.out]
  clear h2 HDD
  go_wp2_with fail
  go_ret
  exact ⟨rfl, HG.out.trans g2⟩
end Go.Proofs.YtjiiiimhegkklaaDoor
namespace Go.Proofs.YtjiiiimhegkklaaDoor
open Go.RowKit Pl

set_option maxHeartbeats 1600000 in
set_option maxRecDepth 100000 in
theorem ruint_any (n : Nat) (w : World) (hn : n < 18446744073709551616) :
    Calls Tryd.prog 91 #[.int .u64 (n : Nat)] w fun e w' => ∃ v', e = .returned v' ∧ Mine w' w.heap.size 5 v' ((vint n).map vb) ∧ Grew w w' := by
  have hvl := vint_len10 hn
  go_enter Tryd.func91, Tryd.ntmps91
  go_wp2_with fail
  go_loopw [0, 3] (fun x a wr => ∃ (m k : Nat) (A : Option Addr) (c : Nat) (pre : List Nat), x = .int .u64 (m : Nat) ∧ m < 18446744073709551616 ∧ a = .slice A k c ∧ Mine wr w.heap.size 5 (.slice A k c) (pre.map vb) ∧ pre ++ vint m = vint n ∧ Grew w wr) (fun x _ _ => (intOf x).toNat)
  case atStart => exact ⟨n, 0, none, 0, [], rfl, hn, rfl, Mine.nil _ _ _, rfl, Grew.refl _⟩
  case round =>
    obtain ⟨m, k, A, c, pre, rfl, hm, rfl, hM, hpre, hG⟩ := hrel
    have hpl : pre.length ≤ 10 := by
      have := congrArg List.length hpre
      rw [List.length_append] at this; omega
    have HPRE := Lib.hid hpre
    have hsz := hG.size
    have hbl : (pre.map vb).length < 1099511627776 := by rw [List.length_map]; omega
    clear hpre
    by_cases h128 : m < 128
    · have t0 : decide ((127 : Int) < (m : Int)) = false := by simp; omega
      go_wp2_with (at_builtin; refine app_one slU8 rfl (.tmp 15) (.tmp 18) rfl rfl (hM.alloc _) wr.heap.size 1 (.int .u8 (m : Nat)) rfl (Nat.le_refl _) (by simp) (by simp) rfl hbl (by simp; omega) ?_; intro r cap w1 hM1 hk1 hr1 hbr1 hlr1)
      go_ret
      rw [vint_lt h128] at HPRE
      exact ⟨_, rfl, by rw [← HPRE.out, List.map_append]; rw [List.length_map] at hM1; exact hM1, (hG.alloc _).app (hM.alloc _) hk1⟩
    · have t0 : decide ((127 : Int) < (m : Int)) = true := by simp; omega
      have hv : (128 + (m : Int) % 128) = ((m % 128 + 128 : Nat) : Int) := by omega
      have HV := Lib.hid hv
      clear hv
      go_wp2_with (at_builtin; refine app_one slU8 rfl (.tmp 6) (.tmp 11) rfl rfl (hM.alloc _) wr.heap.size 1 (.int .u8 (128 + (m : Int) % 128)) rfl (Nat.le_refl _) (by simp) (by simp) rfl hbl (by simp; omega) ?_; intro r cap w1 hM1 hk1 hr1 hbr1 hlr1)
      rw [vint_ge h128] at HPRE
      have hsh : (m : Int) / 128 = ((m / 128 : Nat) : Int) := by omega
      rw [HV.out] at hM1
      go_roundw
      case rel => exact ⟨m / 128, _, _, _, pre ++ [m % 128 + 128], by rw [← hsh], by omega, rfl, by rw [List.map_append]; rw [List.length_map] at hM1; exact hM1, by rw [List.append_assoc]; exact HPRE.out, (hG.alloc _).app (hM.alloc _) hk1⟩
      case measure => simp [intOf]; omega
set_option maxHeartbeats 1600000 in
theorem rint_any (n : Int) (w : World) (hn : I64 n) :
    Calls Tryd.prog 89 #[.int .i64 n] w fun e w' => ∃ v', e = .returned v' ∧ Mine w' w.heap.size 5 v' ((vint (zig n)).map vb) ∧ Grew w w' := by
  have HZ := Lib.hid (zigzag_any n w hn)
  have HU := Lib.hid (ruint_any (zig n) w (zig_lt hn))
  generalize zig n = z at *
  go_enter Tryd.func89, Tryd.ntmps89
  go_wp2_with fail
  refine HZ.out.mono ?_
  rintro e w' ⟨rfl, rfl⟩
  go_wp2_with fail
  refine HU.out.mono ?_
  rintro e w2 ⟨v2, rfl, k1, k2⟩
  go_wp2_with fail
  go_ret
  exact ⟨_, rfl, k1, k2⟩
set_option maxHeartbeats 1600000 in
theorem rraw_any (v : Value) (xs : List Nat) (w : World) (h : Rd w w.heap.size v (xs.map vb)) (hl : xs.length ≤ 1000000) :
    Calls Tryd.prog 90 #[v] w fun e w' => ∃ v', e = .returned v' ∧ Mine w' w.heap.size 5 v' ((rawB xs).map vb) ∧ Grew w w' := by
  obtain ⟨A, n, c, rfl, hn, hc⟩ := h.form
  rw [List.length_map] at hn
  have hnl : n ≤ 1000000 := by omega
  have hvl : (vint n).length ≤ 10 := vint_len10 (by omega)
  have HU := Lib.hid (ruint_any n w (by omega))
  have HN := Lib.hid hn
  have H := Lib.hid h
  clear hn h
  go_enter Tryd.func90, Tryd.ntmps90
  go_wp2_with fail
  refine HU.out.mono ?_
  rintro e w2 ⟨v2, rfl, k1, k2⟩
  obtain ⟨A2, n2, c2, rfl, -⟩ := k1.slice
  have hr2 := (H.out.grew (Nat.le_refl _) k2).more k2.size
  have hs2 := k2.size
  go_wp2_with (at_builtin; refine app_any slU8 rfl (.tmp 6) (.tmp 7) rfl rfl k1 rfl hr2 (one_vb _) (by simp only [List.length_map]; rw [← HN.out]; omega) hs2 ?_; intro A3 m3 c3 w3 hm3 hM3 hk3 hr3)
  go_ret
  exact ⟨_, rfl, by unfold rawB; rw [← HN.out, List.map_append]; exact hM3, k2.app k1 hk3⟩
end Go.Proofs.YtjiiiimhegkklaaDoor
namespace Go.Proofs.YtjiiiimhegkklaaDoor
open Go.RowKit Pl

set_option maxHeartbeats 3200000 in
set_option maxRecDepth 100000 in
theorem rwhole_any (v : Value) (core : List Nat) (w : World) (h : Rd w w.heap.size v (core.map vb)) (hbb : Bytes core) (hl : core.length ≤ 1000000) :
    Calls Tryd.prog 56 #[v] w fun e w' => ∃ v', e = .returned v' ∧ Mine w' w.heap.size 5 v' ((wholeB core).map vb) ∧ Grew w w' := by
  have HR := Lib.hid (rraw_any v core w h hl)
  have HB := Lib.hid (fun (w' : World) (hg : Grew w w') => rbytes_any ⟨#[98, 108, 111, 99, 107]⟩ blockL v core w' rfl blockL_bytes (by decide) ((h.grew (Nat.le_refl _) hg).more hg.size) hbb hl)
  have HW := Lib.hid (show wholeB core = rawB core ++ vint (hashB blockL core) by unfold wholeB; rfl)
  have hlt := hashB_lt blockL core
  generalize hashB blockL core = hv at *
  have HU := Lib.hid (fun w => ruint_any hv w hlt)
  have hrl : (rawB core).length ≤ 1000010 := by
    unfold rawB
    rw [List.length_append]
    have := vint_len10 (n := core.length) (by omega)
    omega
  have hvl := vint_len10 hlt
  obtain ⟨A, n, c, rfl, hn, hc⟩ := h.form
  clear h hn
  go_enter Tryd.func56, Tryd.ntmps56
  go_wp2_with fail
  refine HR.out.mono ?_
  rintro e w1 ⟨v1, rfl, m1, g1⟩
  obtain ⟨A1, n1, c1, rfl, -⟩ := m1.slice
  clear HR
  go_wp2_with fail
  refine (HB.out _ g1).mono ?_
  rintro e w2 ⟨rfl, g2⟩
  clear HB
  go_wp2_with fail
  refine (HU.out _).mono ?_
  rintro e w3 ⟨v3, rfl, m3, g3⟩
  obtain ⟨A3, n3, c3, rfl, -⟩ := m3.slice
  have hG := (g1.trans g2).trans g3
  have m1' := (m1.grew g2).grew g3
  have hs := hG.size
  clear HU m1
  go_wp2_with (at_builtin; refine app_any slU8 rfl (.tmp 6) (.tmp 9) rfl rfl m1' rfl m3.rd (one_vb _) (by simp only [List.length_map]; omega) hs ?_; intro A4 m4 c4 w4 hm4 hM4 hk4 hr4)
  go_ret
  exact ⟨_, rfl, by rw [HW.out, List.map_append]; exact hM4, hG.app m1' hk4⟩
end Go.Proofs.YtjiiiimhegkklaaDoor
namespace Go.Proofs.YtjiiiimhegkklaaDoor
open Go.RowKit Pl

set_option maxHeartbeats 12800000 in
set_option maxRecDepth 100000 in
theorem rcore_any (x : Clm) (A : Option Addr) (n c : Nat) (v : Value) (cb : List Nat) (w : World) (hx : I64 x.1 ∧ I64 x.2.1 ∧ I64 x.2.2.1 ∧ I64 x.2.2.2) (h : Rd w w.heap.size v (cb.map vb)) (hl : cb.length ≤ 1000000) :
    Calls Tryd.prog 55 #[vbl x (.slice A n c), v] w fun e w' => ∃ v', e = .returned v' ∧ Mine w' w.heap.size 5 v' ((coreB x cb).map vb) ∧ Grew w w' := by
  obtain ⟨s, k, p, co⟩ := x
  obtain ⟨x1, x2, x3, x4⟩ := hx
  have HC := Lib.hid (show coreB (s, k, p, co) cb = vint (zig s) ++ vint (zig k) ++ vint (zig p) ++ vint (zig co) ++ rawB cb by unfold coreB; rfl)
  simp only at x1 x2 x3 x4
  have l1 := vint_len10 (zig_lt x1)
  have l2 := vint_len10 (zig_lt x2)
  have l3 := vint_len10 (zig_lt x3)
  have l4 := vint_len10 (zig_lt x4)
  have hrl : (rawB cb).length ≤ 1000010 := by
    unfold rawB
    rw [List.length_append]
    have := vint_len10 (n := cb.length) (by omega)
    omega
  have H1 := Lib.hid (fun w => rint_any s w x1)
  have H2 := Lib.hid (fun w => rint_any k w x2)
  have H3 := Lib.hid (fun w => rint_any p w x3)
  have H4 := Lib.hid (fun w => rint_any co w x4)
  have H5 := Lib.hid (fun (w' : World) (hg : Grew w w') => rraw_any v cb w' ((h.grew (Nat.le_refl _) hg).more hg.size) hl)
  generalize vint (zig s) = b1 at *
  generalize vint (zig k) = b2 at *
  generalize vint (zig p) = b3 at *
  generalize vint (zig co) = b4 at *
  obtain ⟨A', n', c', rfl, hn, hc⟩ := h.form
  clear h hn x1 x2 x3 x4
  unfold vbl
  simp only
  have hb0 := Box.new w 27 #[.int .i64 s, .int .i64 k, .int .i64 p, .int .i64 co, .slice A n c]
  have hG0 : Grew w (w.alloc (.cells #[.int .i64 s, .int .i64 k, .int .i64 p, .int .i64 co, .slice A n c] 27)) := (Grew.refl w).alloc _
  go_enter Tryd.func55, Tryd.ntmps55
  go_upto_region 1 with fail
  generalize w.alloc (.cells #[.int .i64 s, .int .i64 k, .int .i64 p, .int .i64 co, .slice A n c] 27) = w1 at *
  have c0 : w1.cell? ⟨w.heap.size, 0, none⟩ = some (.int .i64 s) := hb0.cell 0
  go_wp2_with fail
  refine (H1.out _).mono ?_
  rintro e w2 ⟨v2, rfl, m2, g2⟩
  obtain ⟨A2, n2, q2, rfl, -⟩ := m2.slice
  have G2 := hG0.trans g2
  have M2 := m2.base_le (base' := w.heap.size) hG0.size
  have B2 := hb0.grew g2
  clear H1 c0 m2 g2 hb0 hG0
  have c2 : w2.cell? ⟨w.heap.size, 1, none⟩ = some (.int .i64 k) := B2.cell 1
  go_wp2_with fail
  refine (H2.out _).mono ?_
  rintro e z2 ⟨v2, rfl, m2, g2⟩
  obtain ⟨P2, k2, r2, rfl, -⟩ := m2.slice
  have N2 := M2.grew g2
  have G2' := G2.trans g2
  have hs2 := G2'.size
  have D2 := B2.grew g2
  clear H2 c2 M2 B2 g2 G2
  go_wp2_with (at_builtin; refine app_any slU8 rfl (.tmp 9) (.tmp 12) rfl rfl N2 rfl m2.rd (one_vb _) (by simp only [List.length_map, List.length_append]; omega) hs2 ?_; intro A3 n3 q3 w3 hm3 L3 k3' r3'; have G3 := G2'.app N2 k3'; have B3 := D2.keep k3' (fun e => N2.ne_box e D2 (by decide) rfl); clear k3' r3' D2 N2 G2' hs2 m2; have c3 : w3.cell? ⟨w.heap.size, 2, none⟩ = some (.int .i64 p) := B3.cell 2)
  have M3 := L3
  rw [← List.map_append] at M3
  refine (H3.out _).mono ?_
  rintro e z3 ⟨v3, rfl, m3, g3⟩
  obtain ⟨P3, k3, r3, rfl, -⟩ := m3.slice
  have N3 := M3.grew g3
  have G3' := G3.trans g3
  have hs3 := G3'.size
  have D3 := B3.grew g3
  clear H3 c3 M3 B3 g3 G3
  go_wp2_with (at_builtin; refine app_any slU8 rfl (.tmp 14) (.tmp 17) rfl rfl N3 rfl m3.rd (one_vb _) (by simp only [List.length_map, List.length_append]; omega) hs3 ?_; intro A4 n4 q4 w4 hm4 L4 k4' r4'; have G4 := G3'.app N3 k4'; have B4 := D3.keep k4' (fun e => N3.ne_box e D3 (by decide) rfl); clear k4' r4' D3 N3 G3' hs3 m3; have c4 : w4.cell? ⟨w.heap.size, 3, none⟩ = some (.int .i64 co) := B4.cell 3)
  have M4 := L4
  rw [← List.map_append] at M4
  refine (H4.out _).mono ?_
  rintro e z4 ⟨v4, rfl, m4, g4⟩
  obtain ⟨P4, k4, r4, rfl, -⟩ := m4.slice
  have N4 := M4.grew g4
  have G4' := G4.trans g4
  have hs4 := G4'.size
  have D4 := B4.grew g4
  clear H4 c4 M4 B4 g4 G4
  go_wp2_with (at_builtin; refine app_any slU8 rfl (.tmp 19) (.tmp 22) rfl rfl N4 rfl m4.rd (one_vb _) (by simp only [List.length_map, List.length_append]; omega) hs4 ?_; intro A5 n5 q5 w5 hm5 L5 k5' r5'; have G5 := G4'.app N4 k5'; have B5 := D4.keep k5' (fun e => N4.ne_box e D4 (by decide) rfl); clear k5' r5' D4 N4 G4' hs4 m4; have c5 : w5.cell? ⟨w.heap.size, 4, none⟩ = some (.slice A n c) := B5.cell 4)
  have M5 := L5
  rw [← List.map_append] at M5
  try go_wp2_with fail
  refine (H5.out _ G5).mono ?_
  rintro e z5 ⟨v5, rfl, m5, g5⟩
  obtain ⟨P5, k5, r5, rfl, -⟩ := m5.slice
  have N5 := M5.grew g5
  have G5' := G5.trans g5
  have hs5 := G5'.size
  go_wp2_with (at_builtin; refine app_any slU8 rfl (.tmp 24) (.tmp 26) rfl rfl N5 rfl m5.rd (one_vb _) (by simp only [List.length_map, List.length_append]; omega) hs5 ?_; intro A6 n6 q6 w6 hm6 L6 k6' r6')
  go_ret
  exact ⟨_, rfl, by rw [HC.out, List.map_append]; exact L6, G5'.app N5 k6'⟩
end Go.Proofs.YtjiiiimhegkklaaDoor
