/- Blocks compared: slices.Equal at claims, block.Equal, the reference's Same. The reference's hash: mix, Words, Sum, Bytes. -/
import Derived.Test.YtjiiiimhegkklaaDoorBlockDetectsP24
import Derived.Test.YtjiiiimhegkklaaDoorBlockDetectsP31
import Derived.Test.YtjiiiimhegkklaaDoorBlockDetectsP19
import Derived.Test.YtjiiiimhegkklaaDoorBlockDetectsP08
import Derived.Test.YtjiiiimhegkklaaDoorBlockDetectsP11
namespace Go.Proofs.YtjiiiimhegkklaaDoor
open Go.RowKit Pl

set_option maxHeartbeats 3200000 in
set_option maxRecDepth 100000 in
theorem equalC_any (v u : Value) (xs ys : List Clm) (w : World) (h : RdC w w.heap.size v xs) (k : RdC w w.heap.size u ys) (hl : xs.length ≤ 1099511627776) (hl' : ys.length ≤ 1099511627776) :
    Calls Tryd.prog 77 #[v, u] w fun e w' => e = .returned (.bool (decide (xs = ys))) ∧ ∃ n, w' = w.drewN n := by
  obtain ⟨A, n, c, rfl, hn, hc⟩ := h.form
  obtain ⟨B, n', d, rfl, hn', hd⟩ := k.form
  have hnl : n ≤ 1099511627776 := by omega
  have hnl' : n' ≤ 1099511627776 := by omega
  have HN := Lib.hid hn
  have HN' := Lib.hid hn'
  by_cases hne : n ≠ n'
  · have t0 : ((n : Int) != (n' : Int)) = true := by rw [bne_iff_ne]; omega
    have hD : decide (xs = ys) = false := by
      rw [decide_eq_false_iff_not]
      rintro rfl
      omega
    have HD := Lib.hid hD
    clear hn hn' hne hD
    go_enter Tryd.func77, Tryd.ntmps77
    go_wp2_with fail
    go_ret
    exact ⟨by rw [HD.out]; rfl, 0, rfl⟩
  obtain rfl : n = n' := by omega
  clear hn hn' hne
  have t0 : ((n : Int) != (n : Int)) = false := by simp
  go_enter Tryd.func77, Tryd.ntmps77
  go_wp2_with fail
  go_loopw [13] (fun i wr => ∃ (j m : Nat), j ≤ n ∧ i = .int .i64 j ∧ wr = w.drewN m ∧ xs.take j = ys.take j) (fun i _ => n - (intOf i).toNat)
  case atStart => exact ⟨0, 0, by omega, rfl, rfl, by simp⟩
  case round =>
    obtain ⟨j, m, hj, rfl, rfl, htake⟩ := hrel
    have HTK := Lib.hid htake
    clear htake
    by_cases hlt : j < n
    · have hjx : j < xs.length := by rw [← HN.out]; exact hlt
      have hjy : j < ys.length := by rw [← HN'.out]; exact hlt
      obtain ⟨b1, o1, rfl, hb1, x0, x1, x2, x3⟩ := h.four hjx
      obtain ⟨b2, o2, rfl, hb2, y0, y1, y2, y3⟩ := k.four hjy
      have ex : xs[j]? = some (xs.getD j zc) := by rw [List.getD_eq_getElem?_getD, List.getElem?_eq_getElem hjx]; rfl
      have ey : ys[j]? = some (ys.getD j zc) := by rw [List.getD_eq_getElem?_getD, List.getElem?_eq_getElem hjy]; rfl
      have HX := Lib.hid ex
      have HY := Lib.hid ey
      clear ex ey hjx hjy
      generalize xs.getD j zc = x at *
      generalize ys.getD j zc = y at *
      by_cases hxy : x = y
      · subst hxy
        have HS := Lib.hid (take_eq_step HTK.out (HX.out.trans HY.out.symm))
        have hnq := neq4 x x true (by simp)
        go_wp2_with fail
        go_quiet (fail)
        go_wp2_with fail
        go_roundw
        case rel => exact ⟨j + 1, _, by omega, by go_num, rfl, HS.out⟩
        case measure => simp [intOf]; omega
      · have hD : decide (xs = ys) = false := by
          rw [decide_eq_false_iff_not]
          rintro rfl
          have := HX.out.symm.trans HY.out
          exact hxy (Option.some.inj this)
        have HD := Lib.hid hD
        have hnq := neq4 x y false (by simpa using hxy)
        clear hD hxy
        go_wp2_with fail
        go_quiet (fail)
        go_wp2_with fail
        go_ret
        exact ⟨by rw [HD.out]; rfl, _, World.drewN_drewN _ _ _⟩
    · have hD : decide (xs = ys) = true := by
        rw [decide_eq_true_eq]
        have := HTK.out
        rwa [List.take_of_length_le (by rw [← HN.out]; omega), List.take_of_length_le (by rw [← HN'.out]; omega)] at this
      have HD := Lib.hid hD
      clear hD
      go_wp2_with fail
      go_ret
      exact ⟨by rw [HD.out]; rfl, _, rfl⟩

set_option maxHeartbeats 6400000 in
set_option maxRecDepth 100000 in
theorem bequal_any (x y : Clm) (v u : Value) (xs ys : List Clm) (w : World) (h : RdC w w.heap.size v xs) (k : RdC w w.heap.size u ys) (hl : xs.length ≤ 1099511627776) (hl' : ys.length ≤ 1099511627776) :
    Calls Tryd.prog 32 #[vbl x v, vbl y u] w fun e w' => e = .returned (.bool (decide (x = y ∧ xs = ys))) ∧ Grew w w' := by
  have HG := Lib.hid (((Grew.refl w).alloc (.cells (cells5 x v).toArray 35)).alloc (.cells (cells5 y u).toArray 35))
  have HB := Lib.hid ((Box.new w 35 (cells5 x v).toArray).alloc (.cells (cells5 y u).toArray 35))
  have HN := Lib.hid (Box.new (w.alloc (.cells (cells5 x v).toArray 35)) 35 (cells5 y u).toArray)
  rw [World.size_alloc] at HN
  have hsz := HG.out.size
  have HE := Lib.hid (equalC_any v u xs ys _ ((h.grew (Nat.le_refl _) HG.out).more hsz) ((k.grew (Nat.le_refl _) HG.out).more hsz) hl hl')
  obtain ⟨A, n, c, rfl, hn, hc⟩ := h.form
  obtain ⟨B, n', d, rfl, hn', hd⟩ := k.form
  obtain ⟨D, hD⟩ : ∃ D, D = decide (x = y ∧ xs = ys) := ⟨_, rfl⟩
  rw [← hD]
  have no : ¬ (x = y) → D = false := fun e => by rw [hD, decide_eq_false_iff_not]; exact fun e2 => e e2.1
  have NO := Lib.hid no
  have HD := Lib.hid hD
  clear hD no hn hn' h k hc hd
  unfold vbl
  go_enter Tryd.func32, Tryd.ntmps32
  go_upto_region 1 with fail
  change Code.wp _ _ _ _ ((w.alloc (.cells (cells5 x (.slice A n c)).toArray 35)).alloc (.cells (cells5 y (.slice B n' d)).toArray 35))
  generalize (w.alloc (.cells (cells5 x (.slice A n c)).toArray 35)).alloc (.cells (cells5 y (.slice B n' d)).toArray 35) = w1 at *
  obtain ⟨c0, c1, c2, c3, c4⟩ := HB.out.five
  obtain ⟨d0, d1, d2, d3, d4⟩ := HN.out.five
  by_cases h0 : x.1 = y.1
  rotate_left
  · obtain rfl := NO.out (fun e => h0 (by rw [e]))
    have t0 : (x.1 == y.1) = false := by simp [h0]
    clear NO HD
    go_wp2_with fail
    go_ret
    exact ⟨rfl, HG.out⟩
  have t0 : (x.1 == y.1) = true := by simp [h0]
  have H0 := Lib.hid h0
  clear h0
  by_cases h1 : x.2.1 = y.2.1
  rotate_left
  · obtain rfl := NO.out (fun e => h1 (by rw [e]))
    have t1 : (x.2.1 == y.2.1) = false := by simp [h1]
    clear NO HD
    go_wp2_with fail
    go_ret
    exact ⟨rfl, HG.out⟩
  have t1 : (x.2.1 == y.2.1) = true := by simp [h1]
  have H1 := Lib.hid h1
  clear h1
  by_cases h2 : x.2.2.1 = y.2.2.1
  rotate_left
  · obtain rfl := NO.out (fun e => h2 (by rw [e]))
    have t2 : (x.2.2.1 == y.2.2.1) = false := by simp [h2]
    clear NO HD
    go_wp2_with fail
    go_ret
    exact ⟨rfl, HG.out⟩
  have t2 : (x.2.2.1 == y.2.2.1) = true := by simp [h2]
  have H2 := Lib.hid h2
  clear h2
  by_cases h3 : x.2.2.2 = y.2.2.2
  rotate_left
  · obtain rfl := NO.out (fun e => h3 (by rw [e]))
    have t3 : (x.2.2.2 == y.2.2.2) = false := by simp [h3]
    clear NO HD
    go_wp2_with fail
    go_ret
    exact ⟨rfl, HG.out⟩
  have t3 : (x.2.2.2 == y.2.2.2) = true := by simp [h3]
  have H3 := Lib.hid h3
  clear h3
  have hxy : x = y := by
    obtain ⟨x0, x1, x2, x3⟩ := x
    obtain ⟨y0, y1, y2, y3⟩ := y
    have e0 := H0.out
    have e1 := H1.out
    have e2 := H2.out
    have e3 := H3.out
    simp only at e0 e1 e2 e3
    rw [e0, e1, e2, e3]
  have hDD : D = decide (xs = ys) := by rw [HD.out]; simp [hxy]
  have HDD := Lib.hid hDD
  clear hxy hDD NO HD H0 H1 H2 H3
  go_wp2_with fail
  refine HE.out.mono ?_
  rintro e w2 ⟨rfl, n2, h2⟩
  have g2 : Grew w1 w2 := by rw [h2]; exact (Grew.refl w1).drewN n2
  rw [← HDD.out]
  clear h2 HDD
  go_wp2_with fail
  go_ret
  exact ⟨rfl, HG.out.trans g2⟩

set_option maxHeartbeats 6400000 in
set_option maxRecDepth 100000 in
theorem rbsame_any (x y : Clm) (v u : Value) (xs ys : List Clm) (w : World) (h : RdC w w.heap.size v xs) (k : RdC w w.heap.size u ys) (hl : xs.length ≤ 1099511627776) (hl' : ys.length ≤ 1099511627776) :
    Calls Tryd.prog 31 #[vbl x v, vbl y u] w fun e w' => e = .returned (.bool (decide (x = y ∧ xs = ys))) ∧ Grew w w' := by
  have HG := Lib.hid (((Grew.refl w).alloc (.cells (cells5 x v).toArray 27)).alloc (.cells (cells5 y u).toArray 27))
  have HB := Lib.hid ((Box.new w 27 (cells5 x v).toArray).alloc (.cells (cells5 y u).toArray 27))
  have HN := Lib.hid (Box.new (w.alloc (.cells (cells5 x v).toArray 27)) 27 (cells5 y u).toArray)
  rw [World.size_alloc] at HN
  have hsz := HG.out.size
  have HE := Lib.hid (sameC_any v u xs ys _ ((h.grew (Nat.le_refl _) HG.out).more hsz) ((k.grew (Nat.le_refl _) HG.out).more hsz) hl hl')
  obtain ⟨A, n, c, rfl, hn, hc⟩ := h.form
  obtain ⟨B, n', d, rfl, hn', hd⟩ := k.form
  obtain ⟨D, hD⟩ : ∃ D, D = decide (x = y ∧ xs = ys) := ⟨_, rfl⟩
  rw [← hD]
  have no : ¬ (x = y) → D = false := fun e => by rw [hD, decide_eq_false_iff_not]; exact fun e2 => e e2.1
  have NO := Lib.hid no
  have HD := Lib.hid hD
  clear hD no hn hn' h k hc hd
  unfold vbl
  go_enter Tryd.func31, Tryd.ntmps31
  go_upto_region 1 with fail
  change Code.wp _ _ _ _ ((w.alloc (.cells (cells5 x (.slice A n c)).toArray 27)).alloc (.cells (cells5 y (.slice B n' d)).toArray 27))
  generalize (w.alloc (.cells (cells5 x (.slice A n c)).toArray 27)).alloc (.cells (cells5 y (.slice B n' d)).toArray 27) = w1 at *
  obtain ⟨c0, c1, c2, c3, c4⟩ := HB.out.five
  obtain ⟨d0, d1, d2, d3, d4⟩ := HN.out.five
  by_cases h0 : x.1 = y.1
  rotate_left
  · obtain rfl := NO.out (fun e => h0 (by rw [e]))
    have t0 : (x.1 == y.1) = false := by simp [h0]
    clear NO HD
    go_wp2_with fail
    go_ret
    exact ⟨rfl, HG.out⟩
  have t0 : (x.1 == y.1) = true := by simp [h0]
  have H0 := Lib.hid h0
  clear h0
  by_cases h1 : x.2.1 = y.2.1
  rotate_left
  · obtain rfl := NO.out (fun e => h1 (by rw [e]))
    have t1 : (x.2.1 == y.2.1) = false := by simp [h1]
    clear NO HD
    go_wp2_with fail
    go_ret
    exact ⟨rfl, HG.out⟩
  have t1 : (x.2.1 == y.2.1) = true := by simp [h1]
  have H1 := Lib.hid h1
  clear h1
  by_cases h2 : x.2.2.1 = y.2.2.1
  rotate_left
  · obtain rfl := NO.out (fun e => h2 (by rw [e]))
    have t2 : (x.2.2.1 == y.2.2.1) = false := by simp [h2]
    clear NO HD
    go_wp2_with fail
    go_ret
    exact ⟨rfl, HG.out⟩
  have t2 : (x.2.2.1 == y.2.2.1) = true := by simp [h2]
  have H2 := Lib.hid h2
  clear h2
  by_cases h3 : x.2.2.2 = y.2.2.2
  rotate_left
  · obtain rfl := NO.out (fun e => h3 (by rw [e]))
    have t3 : (x.2.2.2 == y.2.2.2) = false := by simp [h3]
    clear NO HD
    go_wp2_with fail
    go_ret
    exact ⟨rfl, HG.out⟩
  have t3 : (x.2.2.2 == y.2.2.2) = true := by simp [h3]
  have H3 := Lib.hid h3
  clear h3
  have hxy : x = y := by
    obtain ⟨x0, x1, x2, x3⟩ := x
    obtain ⟨y0, y1, y2, y3⟩ := y
    have e0 := H0.out
    have e1 := H1.out
    have e2 := H2.out
    have e3 := H3.out
    simp only at e0 e1 e2 e3
    rw [e0, e1, e2, e3]
  have hDD : D = decide (xs = ys) := by rw [HD.out]; simp [hxy]
  have HDD := Lib.hid hDD
  clear hxy hDD NO HD H0 H1 H2 H3
  go_wp2_with fail
  refine HE.out.mono ?_
  rintro e w2 ⟨rfl, n2, h2⟩
  have g2 : Grew w1 w2 := by rw [h2]; exact (Grew.refl w1).drewN n2
  rw [← HDD.out]
  clear h2 HDD
  go_wp2_with fail
  go_ret
  exact ⟨rfl, HG.out.trans g2⟩
end Go.Proofs.YtjiiiimhegkklaaDoor
namespace Go.Proofs.YtjiiiimhegkklaaDoor
open Go.RowKit Pl

def v64 (x : Nat) : Value := .int .u64 x
theorem slU64 : SlT Tryd.prog 168 95 8 (.int .u64 0) := ⟨Tryd.underlying168, by kernel_rfl, rfl, by decide⟩
set_option maxRecDepth 100000 in
theorem rmix_any (s x : Nat) (w : World) (hs : s < 18446744073709551616) (hx : x < 18446744073709551616) :
    Calls Tryd.prog 129 #[.int .u64 (s : Nat), .int .u64 (x : Nat)] w fun e w' => e = .returned (.int .u64 (mixN s x : Nat)) ∧ w = w' := by
  have h1 := u64_xor_nat s x hs hx
  have hf : bits BinOp.xor IntKind.u64 (((s ^^^ x : Nat) : Int) * 11400714819323198485 % 18446744073709551616) (((s ^^^ x : Nat) : Int) * 11400714819323198485 % 18446744073709551616 / 4294967296) = ((mixN s x : Nat) : Int) := by
    unfold mixN
    generalize s ^^^ x = y
    have e1 : (y : Int) * 11400714819323198485 % 18446744073709551616 = ((y * 11400714819323198485 % 18446744073709551616 : Nat) : Int) := by omega
    rw [e1]
    have hm : y * 11400714819323198485 % 18446744073709551616 < 18446744073709551616 := by omega
    generalize y * 11400714819323198485 % 18446744073709551616 = m at *
    have e2 : (m : Int) / 4294967296 = ((m / 4294967296 : Nat) : Int) := by omega
    rw [e2, u64_xor_nat _ _ hm (by omega)]
  have hu : ∀ z : Int, IntKind.u64.wrap z = z % 18446744073709551616 := fun z => rfl
  have hf2 : bits BinOp.xor IntKind.u64 (IntKind.u64.wrap (((s ^^^ x : Nat) : Int) * 11400714819323198485)) (IntKind.u64.wrap ((IntKind.u64.wrap (((s ^^^ x : Nat) : Int) * 11400714819323198485)).tdiv 4294967296)) = ((mixN s x : Nat) : Int) := by
    rw [← hf, hu, hu]
    generalize ((s ^^^ x : Nat) : Int) * 11400714819323198485 = z
    rw [Int.tdiv_eq_ediv_of_nonneg (by omega)]
    congr 1
    omega
  have HF := Lib.hid hf2
  clear hf hf2 hu
  go_enter Tryd.func129, Tryd.ntmps129
  go_wp2_with fail
  go_ret
  exact ⟨by rw [← HF.out]; rfl, rfl⟩

theorem leN_drop (l : List Nat) (t : Nat) (h : t < l.length) : leN (l.drop t) = l.getD t 0 + 256 * leN (l.drop (t + 1)) := by
  rw [List.drop_eq_getElem_cons h, leN, List.getD_eq_getElem?_getD, List.getElem?_eq_getElem h]
  rfl
theorem chunk_getD (bs : List Nat) (i t : Nat) (ht : t < 8) : (chunk bs i).getD t 0 = bs.getD (8 * i + t) 0 := by
  unfold chunk
  rw [List.getD_eq_getElem?_getD, List.getElem?_take, if_pos ht, List.getElem?_drop, List.getD_eq_getElem?_getD]
theorem leN_drop_lt {bs : List Nat} (h : Bytes bs) (i t : Nat) : leN ((chunk bs i).drop t) < 256 ^ ((chunk bs i).length - t) := by
  have := leN_lt ((chunk bs i).drop t) (fun x hx => chunk_bytes h i x (List.mem_of_mem_drop hx))
  rwa [List.length_drop] at this
theorem pow256_le {k : Nat} (h : k ≤ 8) : 256 ^ k ≤ 18446744073709551616 := by
  have h2 : 256 ^ k ≤ 256 ^ 8 := Nat.pow_le_pow_right (by omega) h
  have h3 : (256 : Nat) ^ 8 = 18446744073709551616 := by decide
  omega
set_option maxHeartbeats 3200000 in
set_option maxRecDepth 100000 in
theorem rwords_any (v : Value) (bs : List Nat) (w : World) (h : Rd w w.heap.size v (bs.map vb)) (hbb : Bytes bs) (hl : bs.length ≤ 1000000) :
    Calls Tryd.prog 118 #[v] w fun e w' => ∃ v', e = .returned v' ∧ Mine w' w.heap.size 95 v' ((words bs).map v64) ∧ Grew w w' := by
  obtain ⟨A, n, c, rfl, hn, hc⟩ := h.form
  rw [List.length_map] at hn
  have hnl : n ≤ 1000000 := by omega
  have HN := Lib.hid hn
  have H := Lib.hid h
  clear hn h
  go_enter Tryd.func118, Tryd.ntmps118
  go_wp2_with fail
  go_loopw [3, 4] (fun a i wr => ∃ (j m : Nat) (A1 : Option Addr) (c1 : Nat), j ≤ nwords bs ∧ i = .int .i64 ((8 * j : Nat) : Int) ∧ a = .slice A1 m c1 ∧ Mine wr w.heap.size 95 (.slice A1 m c1) (((words bs).take j).map v64) ∧ Grew w wr) (fun _ i _ => n + 8 - (intOf i).toNat)
  case atStart => exact ⟨0, 0, none, 0, by omega, rfl, rfl, by rw [List.take_zero]; exact Mine.nil _ _ _, Grew.refl _⟩
  case round =>
    obtain ⟨j, m, A1, c1, hj, rfl, rfl, hM, hG⟩ := hrel
    have hsz := hG.size
    have hjn : j ≤ (n + 7) / 8 := by unfold nwords at hj; rw [HN.out]; exact hj
    by_cases hlt : 8 * j < n
    · have t0 : decide (((8 * j : Nat) : Int) < (n : Int)) = true := by simp; omega
      have hjw : j < nwords bs := by unfold nwords; rw [← HN.out]; omega
      have hcl : (chunk bs j).length = min 8 (n - 8 * j) := by rw [chunk_length, HN.out]
      obtain ⟨L, hL⟩ : ∃ L : Nat, L = (chunk bs j).length := ⟨_, rfl⟩
      rw [← hL] at hcl
      have hL8 : L ≤ 8 := by omega
      have hLn : 8 * j + L ≤ n := by omega
      have HL := Lib.hid hL
      have HCL := Lib.hid hcl
      have HT := Lib.hid (words_take bs j hjw)
      have hml : (((words bs).take j).map v64).length < 1099511627776 := by rw [List.length_map, List.length_take]; omega
      have hr := H.out.grew (Nat.le_refl _) hG
      clear hL hcl hjw hj
      go_wp2_with fail
      all_goals (
        have hcl := HCL.out
        go_loopw [5, 6] (fun a k wq => ∃ (t : Nat) (y : Int), t ≤ L ∧ y + 1 = ((8 * j + t : Nat) : Int) ∧ k = .int .i64 y ∧ a = .int .u64 (leN ((chunk bs j).drop t) : Nat) ∧ wq = wr) (fun _ k _ => (intOf k + 1).toNat)
        case atStart => exact ⟨L, _, Nat.le_refl _, by omega, rfl, by rw [HL.out, List.drop_length]; rfl, rfl⟩
        case round =>
          obtain ⟨t, y, ht, hy, rfl, rfl, rfl⟩ := hrel
          clear hcl
          by_cases h0 : 0 < t
          · obtain ⟨t', rfl⟩ : ∃ t', t = t' + 1 := ⟨t - 1, by omega⟩
            obtain ⟨p, hp⟩ : ∃ p : Nat, p = 8 * j + t' := ⟨_, rfl⟩
            obtain rfl : y = (p : Int) := by omega
            have hpl : p < bs.length := by rw [← HN.out]; omega
            have hpn : p < n := by omega
            obtain ⟨ad, rfl, hadb, hcell⟩ := hr.byte_at hpl
            have t1 : decide ((8 * (j : Int)) ≤ (p : Int)) = true := by simp; omega
            have hle := leN_drop (chunk bs j) t' (by rw [← HL.out]; omega)
            rw [chunk_getD bs j t' (by omega), ← hp] at hle
            have hlt2 := leN_drop_lt hbb j t'
            have hpw := pow256_le (k := (chunk bs j).length - t') (by rw [← HL.out]; omega)
            have hbl : bs.getD p 0 < 256 := getD_byte hbb p
            have HLE := Lib.hid hle
            have hs2 : 256 * leN ((chunk bs j).drop (t' + 1)) + bs.getD p 0 < 18446744073709551616 := by omega
            clear hle hlt2 hpw
            generalize leN ((chunk bs j).drop (t' + 1)) = q at *
            generalize bs.getD p 0 = b at *
            have HP := Lib.hid hp
            have HY := Lib.hid hy
            clear hp hy
            go_wp2_with fail
            have hp := HP.out
            go_roundw
            case rel => exact ⟨t', _, by omega, by omega, rfl, by rw [HLE.out]; congr 1; omega, trivial⟩
            case measure => simp [intOf]
          · obtain rfl : t = 0 := by omega
            have t1 : decide ((8 * (j : Int)) ≤ y) = false := by simp; omega
            have hcv := chunk_lt hbb j
            rw [List.drop_zero]
            generalize leN (chunk bs j) = q at *
            go_wp2_with (at_builtin; refine app_one slU64 rfl (.tmp 32) (.tmp 34) rfl rfl (hM.alloc _) wr.heap.size 1 (.int .u64 (q : Nat)) rfl (Nat.le_refl _) (by simp) (by simp) rfl hml (by simp; omega) ?_; intro r cap w1 hM1 hk1 hr1 hbr1 hlr1)
            go_roundw
            case rel => exact ⟨j + 1, _, _, _, by unfold nwords; rw [← HN.out]; omega, by go_num, rfl, by rw [HT.out, List.map_append]; rw [List.length_map, List.length_take] at hM1; exact hM1, (hG.alloc _).app (hM.alloc _) hk1⟩
            case measure => simp [intOf]; omega)
    · have t0 : decide (((8 * j : Nat) : Int) < (n : Int)) = false := by simp; omega
      have hall : (words bs).take j = words bs := by
        rw [List.take_of_length_le]
        rw [words_length]; unfold nwords; rw [← HN.out]; omega
      rw [hall] at hM
      go_wp2_with fail
      go_ret
      exact ⟨_, rfl, hM, hG⟩
end Go.Proofs.YtjiiiimhegkklaaDoor
