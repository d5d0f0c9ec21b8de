/- Lists of claims compared. Blocks compared: slices.Equal at claims, block.Equal, the reference's Same. -/
import Derived.Test.YtjiiiimhegkklaaDoorBlockEqualP15
import Derived.Laws.StructEq
import Derived.Test.YtjiiiimhegkklaaDoorBlockEqualP17
namespace Go.Proofs.YtjiiiimhegkklaaDoor
open Go.RowKit Pl

theorem eq4 (c d : Clm) : decide (c = d) = (c.1 == d.1 && (c.2.1 == d.2.1 && (c.2.2.1 == d.2.2.1 && c.2.2.2 == d.2.2.2))) := by
  obtain ⟨a0, a1, a2, a3⟩ := c
  obtain ⟨b0, b1, b2, b3⟩ := d
  rw [Bool.eq_iff_iff]
  simp
theorem equal4 (c d : Clm) (w : World) : (Op.equalIn 10000 24 (.agg #[.int .i64 c.1, .int .i64 c.2.1, .int .i64 c.2.2.1, .int .i64 c.2.2.2]) (.agg #[.int .i64 d.1, .int .i64 d.2.1, .int .i64 d.2.2.1, .int .i64 d.2.2.2])).run Tryd.prog w = .ok (decide (c = d)) w := by
  rw [eq4]
  rw [run_equalIn_struct w 9999 24 _ _ (by kernel_rfl) (by kernel_rfl)]
  generalize c.1 = c0
  generalize c.2.1 = c1
  generalize c.2.2.1 = c2
  generalize c.2.2.2 = c3
  generalize d.1 = d0
  generalize d.2.1 = d1
  generalize d.2.2.1 = d2
  generalize d.2.2.2 = d3
  unfold Program.fieldsOf
  rw [Tryd.underlying24]
  simp [go_sem, Op.eqFields, part, Tryd.underlying3]
  by_cases h0 : c0 = d0 <;> by_cases h1 : c1 = d1 <;> by_cases h2 : c2 = d2 <;> by_cases h3 : c3 = d3 <;> simp [h0, h1, h2, h3]

theorem neq4 (c d : Clm) (b : Bool) (hb : decide (c = d) = b) (w : World) : (binOp .neq 24 (.agg #[.int .i64 c.1, .int .i64 c.2.1, .int .i64 c.2.2.1, .int .i64 c.2.2.2]) (.agg #[.int .i64 d.1, .int .i64 d.2.1, .int .i64 d.2.2.1, .int .i64 d.2.2.2])).run Tryd.prog w = .ok (.bool (!b)) w := by
  rw [run_neq_struct, equal4, hb]; rfl

set_option maxHeartbeats 3200000 in
set_option maxRecDepth 100000 in
theorem same11_any (v u : Value) (xs ys : List Clm) (w : World) (h : RdC w w.heap.size v xs) (k : RdC w w.heap.size u ys) (hl : xs.length ≤ 1099511627776) (hl' : ys.length ≤ 1099511627776) :
    Calls Tryd.prog 82 #[v, u] w fun e w' => e = .returned (.bool (decide (xs = ys))) ∧ ∃ n, w' = w.drewN n := by
  obtain ⟨A, n, c, rfl, hn, hc⟩ := h.form
  obtain ⟨B, n', d, rfl, hn', hd⟩ := k.form
  have hnl : n ≤ 1099511627776 := by omega
  have hnl' : n' ≤ 1099511627776 := by omega
  have HN := Lib.hid hn
  have HN' := Lib.hid hn'
  by_cases hne : n ≠ n'
  · have t0 : ((n : Int) != (n' : Int)) = true := by rw [bne_iff_ne]; omega
    have hD : decide (xs = ys) = false := by
      rw [decide_eq_false_iff_not]
      rintro rfl
      omega
    have HD := Lib.hid hD
    clear hn hn' hne hD
    go_enter Tryd.func82, Tryd.ntmps82
    go_wp2_with fail
    go_ret
    exact ⟨by rw [HD.out]; rfl, 0, rfl⟩
  obtain rfl : n = n' := by omega
  clear hn hn' hne
  have t0 : ((n : Int) != (n : Int)) = false := by simp
  go_enter Tryd.func82, Tryd.ntmps82
  go_wp2_with fail
  go_loopw [5] (fun i wr => ∃ (j m : Nat), j ≤ n ∧ i = .int .i64 j ∧ wr = w.drewN m ∧ xs.take j = ys.take j) (fun i _ => n - (intOf i).toNat)
  case atStart => exact ⟨0, 0, by omega, rfl, rfl, by simp⟩
  case round =>
    obtain ⟨j, m, hj, rfl, rfl, htake⟩ := hrel
    have HTK := Lib.hid htake
    clear htake
    by_cases hlt : j < n
    · have hjx : j < xs.length := by rw [← HN.out]; exact hlt
      have hjy : j < ys.length := by rw [← HN'.out]; exact hlt
      obtain ⟨b1, o1, rfl, hb1, x0, x1, x2, x3⟩ := h.four hjx
      obtain ⟨b2, o2, rfl, hb2, y0, y1, y2, y3⟩ := k.four hjy
      have ex : xs[j]? = some (xs.getD j zc) := by rw [List.getD_eq_getElem?_getD, List.getElem?_eq_getElem hjx]; rfl
      have ey : ys[j]? = some (ys.getD j zc) := by rw [List.getD_eq_getElem?_getD, List.getElem?_eq_getElem hjy]; rfl
      have HX := Lib.hid ex
      have HY := Lib.hid ey
      clear ex ey hjx hjy
      generalize xs.getD j zc = x at *
      generalize ys.getD j zc = y at *
      by_cases hxy : x = y
      · subst hxy
        have HS := Lib.hid (take_eq_step HTK.out (HX.out.trans HY.out.symm))
        have hnq := neq4 x x true (by simp)
        go_wp2_with fail
        go_quiet (fail)
        go_wp2_with fail
        go_roundw
        case rel => exact ⟨j + 1, _, by omega, by go_num, rfl, HS.out⟩
        case measure => simp [intOf]; omega
      · have hD : decide (xs = ys) = false := by
          rw [decide_eq_false_iff_not]
          rintro rfl
          have := HX.out.symm.trans HY.out
          exact hxy (Option.some.inj this)
        have HD := Lib.hid hD
        have hnq := neq4 x y false (by simpa using hxy)
        clear hD hxy
        go_wp2_with fail
        go_quiet (fail)
        go_wp2_with fail
        go_ret
        exact ⟨by rw [HD.out]; rfl, _, World.drewN_drewN _ _ _⟩
    · have hD : decide (xs = ys) = true := by
        rw [decide_eq_true_eq]
        have := HTK.out
        rwa [List.take_of_length_le (by rw [← HN.out]; omega), List.take_of_length_le (by rw [← HN'.out]; omega)] at this
      have HD := Lib.hid hD
      clear hD
      go_wp2_with fail
      go_ret
      exact ⟨by rw [HD.out]; rfl, _, rfl⟩
theorem sameC_any (v u : Value) (xs ys : List Clm) (w : World) (h : RdC w w.heap.size v xs) (k : RdC w w.heap.size u ys) (hl : xs.length ≤ 1099511627776) (hl' : ys.length ≤ 1099511627776) :
    Calls Tryd.prog 45 #[v, u] w fun e w' => e = .returned (.bool (decide (xs = ys))) ∧ ∃ n, w' = w.drewN n := by
  have HS := Lib.hid (same11_any v u xs ys w h k hl hl')
  obtain ⟨A, n, c, rfl, hn, hc⟩ := h.form
  obtain ⟨B, n', d, rfl, hn', hd⟩ := k.form
  clear h k hn hn'
  go_enter Tryd.func45, Tryd.ntmps45
  go_wp2_with (go_at_call 82; refine HS.out.mono ?_; rintro e w2 ⟨rfl, n2, h2⟩)
  go_ret
  exact ⟨rfl, n2, rfl⟩
end Go.Proofs.YtjiiiimhegkklaaDoor
namespace Go.Proofs.YtjiiiimhegkklaaDoor
open Go.RowKit Pl

set_option maxHeartbeats 3200000 in
set_option maxRecDepth 100000 in
theorem equalC_any (v u : Value) (xs ys : List Clm) (w : World) (h : RdC w w.heap.size v xs) (k : RdC w w.heap.size u ys) (hl : xs.length ≤ 1099511627776) (hl' : ys.length ≤ 1099511627776) :
    Calls Tryd.prog 77 #[v, u] w fun e w' => e = .returned (.bool (decide (xs = ys))) ∧ ∃ n, w' = w.drewN n := by
  obtain ⟨A, n, c, rfl, hn, hc⟩ := h.form
  obtain ⟨B, n', d, rfl, hn', hd⟩ := k.form
  have hnl : n ≤ 1099511627776 := by omega
  have hnl' : n' ≤ 1099511627776 := by omega
  have HN := Lib.hid hn
  have HN' := Lib.hid hn'
  by_cases hne : n ≠ n'
  · have t0 : ((n : Int) != (n' : Int)) = true := by rw [bne_iff_ne]; omega
    have hD : decide (xs = ys) = false := by
      rw [decide_eq_false_iff_not]
      rintro rfl
      omega
    have HD := Lib.hid hD
    clear hn hn' hne hD
    go_enter Tryd.func77, Tryd.ntmps77
    go_wp2_with fail
    go_ret
    exact ⟨by rw [HD.out]; rfl, 0, rfl⟩
  obtain rfl : n = n' := by omega
  clear hn hn' hne
  have t0 : ((n : Int) != (n : Int)) = false := by simp
  go_enter Tryd.func77, Tryd.ntmps77
  go_wp2_with fail
  go_loopw [13] (fun i wr => ∃ (j m : Nat), j ≤ n ∧ i = .int .i64 j ∧ wr = w.drewN m ∧ xs.take j = ys.take j) (fun i _ => n - (intOf i).toNat)
  case atStart => exact ⟨0, 0, by omega, rfl, rfl, by simp⟩
  case round =>
    obtain ⟨j, m, hj, rfl, rfl, htake⟩ := hrel
    have HTK := Lib.hid htake
    clear htake
    by_cases hlt : j < n
    · have hjx : j < xs.length := by rw [← HN.out]; exact hlt
      have hjy : j < ys.length := by rw [← HN'.out]; exact hlt
      obtain ⟨b1, o1, rfl, hb1, x0, x1, x2, x3⟩ := h.four hjx
      obtain ⟨b2, o2, rfl, hb2, y0, y1, y2, y3⟩ := k.four hjy
      have ex : xs[j]? = some (xs.getD j zc) := by rw [List.getD_eq_getElem?_getD, List.getElem?_eq_getElem hjx]; rfl
      have ey : ys[j]? = some (ys.getD j zc) := by rw [List.getD_eq_getElem?_getD, List.getElem?_eq_getElem hjy]; rfl
      have HX := Lib.hid ex
      have HY := Lib.hid ey
      clear ex ey hjx hjy
      generalize xs.getD j zc = x at *
      generalize ys.getD j zc = y at *
      by_cases hxy : x = y
      · subst hxy
        have HS := Lib.hid (take_eq_step HTK.out (HX.out.trans HY.out.symm))
        have hnq := neq4 x x true (by simp)
        go_wp2_with fail
        go_quiet (fail)
        go_wp2_with fail
        go_roundw
        case rel => exact ⟨j + 1, _, by omega, by go_num, rfl, HS.out⟩
        case measure => simp [intOf]; omega
      · have hD : decide (xs = ys) = false := by
          rw [decide_eq_false_iff_not]
          rintro rfl
          have := HX.out.symm.trans HY.out
          exact hxy (Option.some.inj this)
        have HD := Lib.hid hD
        have hnq := neq4 x y false (by simpa using hxy)
        clear hD hxy
        go_wp2_with fail
        go_quiet (fail)
        go_wp2_with fail
        go_ret
        exact ⟨by rw [HD.out]; rfl, _, World.drewN_drewN _ _ _⟩
    · have hD : decide (xs = ys) = true := by
        rw [decide_eq_true_eq]
        have := HTK.out
        rwa [List.take_of_length_le (by rw [← HN.out]; omega), List.take_of_length_le (by rw [← HN'.out]; omega)] at this
      have HD := Lib.hid hD
      clear hD
      go_wp2_with fail
      go_ret
      exact ⟨by rw [HD.out]; rfl, _, rfl⟩

set_option maxHeartbeats 6400000 in
set_option maxRecDepth 100000 in
theorem bequal_any (x y : Clm) (v u : Value) (xs ys : List Clm) (w : World) (h : RdC w w.heap.size v xs) (k : RdC w w.heap.size u ys) (hl : xs.length ≤ 1099511627776) (hl' : ys.length ≤ 1099511627776) :
    Calls Tryd.prog 32 #[vbl x v, vbl y u] w fun e w' => e = .returned (.bool (decide (x = y ∧ xs = ys))) ∧ Grew w w' := by
  have HG := Lib.hid (((Grew.refl w).alloc (.cells (cells5 x v).toArray 35)).alloc (.cells (cells5 y u).toArray 35))
  have HB := Lib.hid ((Box.new w 35 (cells5 x v).toArray).alloc (.cells (cells5 y u).toArray 35))
  have HN := Lib.hid (Box.new (w.alloc (.cells (cells5 x v).toArray 35)) 35 (cells5 y u).toArray)
  rw [World.size_alloc] at HN
  have hsz := HG.out.size
  have HE := Lib.hid (equalC_any v u xs ys _ ((h.grew (Nat.le_refl _) HG.out).more hsz) ((k.grew (Nat.le_refl _) HG.out).more hsz) hl hl')
  obtain ⟨A, n, c, rfl, hn, hc⟩ := h.form
  obtain ⟨B, n', d, rfl, hn', hd⟩ := k.form
  obtain ⟨D, hD⟩ : ∃ D, D = decide (x = y ∧ xs = ys) := ⟨_, rfl⟩
  rw [← hD]
  have no : ¬ (x = y) → D = false := fun e => by rw [hD, decide_eq_false_iff_not]; exact fun e2 => e e2.1
  have NO := Lib.hid no
  have HD := Lib.hid hD
  clear hD no hn hn' h k hc hd
  unfold vbl
  go_enter Tryd.func32, Tryd.ntmps32
  go_upto_region 1 with fail
  change Code.wp _ _ _ _ ((w.alloc (.cells (cells5 x (.slice A n c)).toArray 35)).alloc (.cells (cells5 y (.slice B n' d)).toArray 35))
  generalize (w.alloc (.cells (cells5 x (.slice A n c)).toArray 35)).alloc (.cells (cells5 y (.slice B n' d)).toArray 35) = w1 at *
  obtain ⟨c0, c1, c2, c3, c4⟩ := HB.out.five
  obtain ⟨d0, d1, d2, d3, d4⟩ := HN.out.five
  by_cases h0 : x.1 = y.1
  rotate_left
  · obtain rfl := NO.out (fun e => h0 (by rw [e]))
    have t0 : (x.1 == y.1) = false := by simp [h0]
    clear NO HD
    go_wp2_with fail
    go_ret
    exact ⟨rfl, HG.out⟩
  have t0 : (x.1 == y.1) = true := by simp [h0]
  have H0 := Lib.hid h0
  clear h0
  by_cases h1 : x.2.1 = y.2.1
  rotate_left
  · obtain rfl := NO.out (fun e => h1 (by rw [e]))
    have t1 : (x.2.1 == y.2.1) = false := by simp [h1]
    clear NO HD
    go_wp2_with fail
    go_ret
    exact ⟨rfl, HG.out⟩
  have t1 : (x.2.1 == y.2.1) = true := by simp [h1]
  have H1 := Lib.hid h1
  clear h1
  by_cases h2 : x.2.2.1 = y.2.2.1
  rotate_left
  · obtain rfl := NO.out (fun e => h2 (by rw [e]))
    have t2 : (x.2.2.1 == y.2.2.1) = false := by simp [h2]
    clear NO HD
    go_wp2_with fail
    go_ret
    exact ⟨rfl, HG.out⟩
  have t2 : (x.2.2.1 == y.2.2.1) = true := by simp [h2]
  have H2 := Lib.hid h2
  clear h2
  by_cases h3 : x.2.2.2 = y.2.2.2
  rotate_left
  · obtain rfl := NO.out (fun e => h3 (by rw [e]))
    have t3 : (x.2.2.2 == y.2.2.2) = false := by simp [h3]
    clear NO HD
    go_wp2_with fail
    go_ret
    exact ⟨rfl, HG.out⟩
  have t3 : (x.2.2.2 == y.2.2.2) = true := by simp [h3]
  have H3 := Lib.hid h3
  clear h3
  have hxy : x = y := by
    obtain ⟨x0, x1, x2, x3⟩ := x
    obtain ⟨y0, y1, y2, y3⟩ := y
    have e0 := H0.out
    have e1 := H1.out
    have e2 := H2.out
    have e3 := H3.out
    simp only at e0 e1 e2 e3
    rw [e0, e1, e2, e3]
  have hDD : D = decide (xs = ys) := by rw [HD.out]; simp [hxy]
  have HDD := Lib.hid hDD
  clear hxy hDD NO HD H0 H1 H2 H3
  go_wp2_with fail
  refine HE.out.mono ?_
  rintro e w2 ⟨rfl, n2, h2⟩
  have g2 : Grew w1 w2 := by rw [h2]; exact (Grew.refl w1).drewN n2
  rw [← HDD.out]
  clear h2 HDD
  go_wp2_with fail
  go_ret
  exact ⟨rfl, HG.out.trans g2⟩

set_option maxHeartbeats 6400000 in
set_option maxRecDepth 100000 in
theorem rbsame_any (x y : Clm) (v u : Value) (xs ys : List Clm) (w : World) (h : RdC w w.heap.size v xs) (k : RdC w w.heap.size u ys) (hl : xs.length ≤ 1099511627776) (hl' : ys.length ≤ 1099511627776) :
    Calls Tryd.prog 31 #[vbl x v, vbl y u] w fun e w' => e = .returned (.bool (decide (x = y ∧ xs = ys))) ∧ Grew w w' := by
  have HG := Lib.hid (((Grew.refl w).alloc (.cells (cells5 x v).toArray 27)).alloc (.cells (cells5 y u).toArray 27))
  have HB := Lib.hid ((Box.new w 27 (cells5 x v).toArray).alloc (.cells (cells5 y u).toArray 27))
  have HN := Lib.hid (Box.new (w.alloc (.cells (cells5 x v).toArray 27)) 27 (cells5 y u).toArray)
  rw [World.size_alloc] at HN
  have hsz := HG.out.size
  have HE := Lib.hid (sameC_any v u xs ys _ ((h.grew (Nat.le_refl _) HG.out).more hsz) ((k.grew (Nat.le_refl _) HG.out).more hsz) hl hl')
  obtain ⟨A, n, c, rfl, hn, hc⟩ := h.form
  obtain ⟨B, n', d, rfl, hn', hd⟩ := k.form
  obtain ⟨D, hD⟩ : ∃ D, D = decide (x = y ∧ xs = ys) := ⟨_, rfl⟩
  rw [← hD]
  have no : ¬ (x = y) → D = false := fun e => by rw [hD, decide_eq_false_iff_not]; exact fun e2 => e e2.1
  have NO := Lib.hid no
  have HD := Lib.hid hD
  clear hD no hn hn' h k hc hd
  unfold vbl
  go_enter Tryd.func31, Tryd.ntmps31
  go_upto_region 1 with fail
  change Code.wp _ _ _ _ ((w.alloc (.cells (cells5 x (.slice A n c)).toArray 27)).alloc (.cells (cells5 y (.slice B n' d)).toArray 27))
  generalize (w.alloc (.cells (cells5 x (.slice A n c)).toArray 27)).alloc (.cells (cells5 y (.slice B n' d)).toArray 27) = w1 at *
  obtain ⟨c0, c1, c2, c3, c4⟩ := HB.out.five
  obtain ⟨d0, d1, d2, d3, d4⟩ := HN.out.five
  by_cases h0 : x.1 = y.1
  rotate_left
  · obtain rfl := NO.out (fun e => h0 (by rw [e]))
    have t0 : (x.1 == y.1) = false := by simp [h0]
    clear NO HD
    go_wp2_with fail
    go_ret
    exact ⟨rfl, HG.out⟩
  have t0 : (x.1 == y.1) = true := by simp [h0]
  have H0 := Lib.hid h0
  clear h0
  by_cases h1 : x.2.1 = y.2.1
  rotate_left
  · obtain rfl := NO.out (fun e => h1 (by rw [e]))
    have t1 : (x.2.1 == y.2.1) = false := by simp [h1]
    clear NO HD
    go_wp2_with fail
    go_ret
    exact ⟨rfl, HG.out⟩
  have t1 : (x.2.1 == y.2.1) = true := by simp [h1]
  have H1 := Lib.hid h1
  clear h1
  by_cases h2 : x.2.2.1 = y.2.2.1
  rotate_left
  · obtain rfl := NO.out (fun e => h2 (by rw [e]))
    have t2 : (x.2.2.1 == y.2.2.1) = false := by simp [h2]
    clear NO HD
    go_wp2_with fail
    go_ret
    exact ⟨rfl, HG.out⟩
  have t2 : (x.2.2.1 == y.2.2.1) = true := by simp [h2]
  have H2 := Lib.hid h2
  clear h2
  by_cases h3 : x.2.2.2 = y.2.2.2
  rotate_left
  · obtain rfl := NO.out (fun e => h3 (by rw [e]))
    have t3 : (x.2.2.2 == y.2.2.2) = false := by simp [h3]
    clear NO HD
    go_wp2_with fail
    go_ret
    exact ⟨rfl, HG.out⟩
  have t3 : (x.2.2.2 == y.2.2.2) = true := by simp [h3]
  have H3 := Lib.hid h3
  clear h3
  have hxy : x = y := by
    obtain ⟨x0, x1, x2, x3⟩ := x
    obtain ⟨y0, y1, y2, y3⟩ := y
    have e0 := H0.out
    have e1 := H1.out
    have e2 := H2.out
    have e3 := H3.out
    simp only at e0 e1 e2 e3
    rw [e0, e1, e2, e3]
  have hDD : D = decide (xs = ys) := by rw [HD.out]; simp [hxy]
  have HDD := Lib.hid hDD
  clear hxy hDD NO HD H0 H1 H2 H3
  go_wp2_with fail
  refine HE.out.mono ?_
  rintro e w2 ⟨rfl, n2, h2⟩
  have g2 : Grew w1 w2 := by rw [h2]; exact (Grew.refl w1).drewN n2
  rw [← HDD.out]
  clear h2 HDD
  go_wp2_with fail
  go_ret
  exact ⟨rfl, HG.out.trans g2⟩
end Go.Proofs.YtjiiiimhegkklaaDoor
