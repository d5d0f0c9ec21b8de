/- Blocks decoded again, and one byte turned: plain. A block of up to twenty claims: how long its bytes are, what they decode to: plain. Lists of claims compared. Blocks compared: slices.Equal at claims, block.Equal, the reference's Same. The examples of chapter 18 hold. -/
import Derived.Test.YtgkmfblmkfclbaaGreatDoorBlockSoundP18
import Derived.Test.YtgkmfblmkfclbaaGreatDoorBlockSoundP49
import Derived.Test.YtgkmfblmkfclbaaGreatDoorBlockSoundP10
import Derived.Test.YtgkmfblmkfclbaaGreatDoorBlockSoundP11
import Derived.Laws.StructEq
import Derived.Test.YtgkmfblmkfclbaaGreatDoorBlockSoundP46
import Derived.Test.YtgkmfblmkfclbaaGreatDoorBlockSoundP17
import Derived.Test.YtgkmfblmkfclbaaGreatDoorBlockSoundP09
namespace Go.Proofs.YtgkmfblmkfclbaaGreatDoor.Pl

theorem sU_vint {n : Nat} (hn : n < 18446744073709551616) (t : List Nat) : sU (.inr (vint n ++ t)) = (n, .inr t) := sU_ok (uP_vint0 hn t)
theorem sI_vint {n : Int} (hn : I64 n) (t : List Nat) : sI (.inr (vint (zig n) ++ t)) = (n, .inr t) := by
  unfold sI
  rw [sU_vint (zig_lt hn), unzig_zig]
theorem sRaw_rawB {c : List Nat} (hc : c.length < 18446744073709551616) (t : List Nat) : sRaw (.inr (rawB c ++ t)) = (c, .inr t) := by
  unfold rawB
  rw [List.append_assoc, sRaw_ok (sU_vint hc _) (by rw [List.length_append]; omega), List.take_left' rfl, List.drop_left' rfl]
theorem decB_whole {core : List Nat} (hc : core.length < 18446744073709551616) : decB (wholeB core) = inB core := by
  unfold decB wholeB
  have h1 := sRaw_rawB hc (vint (hashB blockL core))
  have h2 := sU_vint (hashB_lt blockL core) []
  rw [List.append_nil] at h2
  simp only [h1, h2]
  simp [sEnd]
theorem inB_core {x : Clm} (hx : I64 x.1 ∧ I64 x.2.1 ∧ I64 x.2.2.1 ∧ I64 x.2.2.2) {cb : List Nat} (hc : cb.length < 18446744073709551616) :
    inB (coreB x cb) = match refDecode cb with
      | none => .inl 2
      | some l => if okB x then .inr (x, l) else .inl 1 := by
  obtain ⟨x1, x2, x3, x4⟩ := hx
  unfold inB coreB
  have h5 := sRaw_rawB hc []
  rw [List.append_nil] at h5
  simp only [List.append_assoc, sI_vint x1, sI_vint x2, sI_vint x3, sI_vint x4, h5]
  simp [sEnd]
  cases refDecode cb <;> rfl
/- the set of one byte behind the first part -/
theorem set_tail (a b : List Nat) (k y : Nat) (h : a.length ≤ k) : (a ++ b).set k y = a ++ b.set (k - a.length) y := List.set_append_right _ _ h
theorem detect {core : List Nat} (hb : Bytes core) (hl : core.length < 18446744073709551616) {k y : Nat} (hk : (vint core.length).length ≤ k) (hk2 : k < (wholeB core).length) (hy : y < 256) (hne : (wholeB core)[k]? ≠ some y) :
    decB ((wholeB core).set k y) = .inl 2 ∨ decB ((wholeB core).set k y) = .inl 11 := by
  have hh := hashB_lt blockL core
  have hinj := fun j (hj : j < core.length) => hashB_set blockL hb hl (j := j) (y := y) hj hy
  have ew : wholeB core = vint core.length ++ (core ++ vint (hashB blockL core)) := by unfold wholeB rawB; rw [List.append_assoc]
  have hlen := congrArg List.length ew
  simp only [List.length_append] at hlen
  rw [ew] at hne ⊢
  rw [List.getElem?_append_right hk] at hne
  rw [set_tail _ _ _ _ hk]
  generalize hj : k - (vint core.length).length = j at *
  by_cases hc : j < core.length
  · right
    rw [List.getElem?_append_left hc] at hne
    have hd : hashB blockL core ≠ hashB blockL (core.set j y) := fun e => hne (hinj j hc e.symm)
    rw [List.set_append_left _ _ hc]
    have e1 : vint core.length ++ (core.set j y ++ vint (hashB blockL core)) = rawB (core.set j y) ++ (vint (hashB blockL core) ++ []) := by
      unfold rawB; rw [List.length_set, List.append_assoc, List.append_nil]
    rw [e1]
    generalize hashB blockL core = h at *
    have hcl : (core.set j y).length < 18446744073709551616 := by rw [List.length_set]; exact hl
    generalize core.set j y = core' at *
    unfold decB
    simp only [sRaw_rawB hcl, sU_vint hh]
    rw [if_neg (show ¬ (sEnd (.inr []) ≠ 0) by simp [sEnd]), if_pos hd]
  · have hc' : core.length ≤ j := by omega
    rw [List.getElem?_append_right hc'] at hne
    rw [set_tail _ _ _ _ hc', ← List.append_assoc]
    change decB (rawB core ++ _) = _ ∨ decB (rawB core ++ _) = _
    have hbs : Bytes ((vint (hashB blockL core)).set (j - core.length) y) := bytes_set (vint_bytes _) _ hy
    have hns : ∀ n t, uP 0 0 ((vint (hashB blockL core)).set (j - core.length) y) = .inr (n, t) → t = [] → n ≠ hashB blockL core := by
      intro n t hu ht hn
      have := uP_canon0 hbs hu
      rw [ht, List.append_nil, hn] at this
      apply hne
      have h3 : ((vint (hashB blockL core)).set (j - core.length) y)[j - core.length]? = (vint (hashB blockL core))[j - core.length]? := by rw [this]
      rw [List.getElem?_set, if_pos rfl, if_pos (by omega)] at h3
      exact h3.symm
    unfold decB
    simp only [sRaw_rawB hl]
    generalize hashB blockL core = h at *
    generalize (vint h).set (j - core.length) y = s' at *
    cases hu : uP 0 0 s' with
    | inl e =>
      left
      rw [sU_err hu]
      have := uP_err _ _ _ _ hu
      rw [if_pos (show sEnd (.inl e) ≠ 0 by show e ≠ 0; omega)]
    | inr p =>
      obtain ⟨n, t⟩ := p
      rw [sU_ok hu]
      rcases t with _ | ⟨z, t⟩
      · right
        have := hns n [] hu rfl
        rw [if_neg (show ¬ (sEnd (.inr []) ≠ 0) by simp [sEnd]), if_pos this]
      · left
        rw [if_pos (show sEnd (.inr (z :: t)) ≠ 0 by simp [sEnd])]
end Go.Proofs.YtgkmfblmkfclbaaGreatDoor.Pl
namespace Go.Proofs.YtgkmfblmkfclbaaGreatDoor
open Go.RowKit Pl

theorem core_len20 {x : Clm} (hx : okB x) {cs : List Clm} (hl : cs.length ≤ 20) : (coreB x (pack (cbits cs))).length ≤ 2000 := by
  obtain ⟨x1, x2, x3, x4⟩ := okB_i64 hx
  have h1 := cbits_length cs
  have h2 : (pack (cbits cs)).length ≤ 800 := by rw [pack_length]; omega
  have l1 := vint_len10 (zig_lt x1)
  have l2 := vint_len10 (zig_lt x2)
  have l3 := vint_len10 (zig_lt x3)
  have l4 := vint_len10 (zig_lt x4)
  have l5 := vint_len10 (n := (pack (cbits cs)).length) (by omega)
  unfold coreB rawB
  simp only [List.length_append]
  omega
theorem whole_len20 {core : List Nat} (h : core.length ≤ 2000) : (wholeB core).length ≤ 2020 := by
  have h1 := vint_len10 (n := core.length) (by omega)
  have h2 := vint_len10 (hashB_lt blockL core)
  unfold wholeB
  rw [List.length_append, rawB, List.length_append]
  omega
theorem snd_enc {X : Clm} {cs : List Clm} (hx : okB X) (hc : ∀ c ∈ cs, okC c) (hl : cs.length ≤ 20) : bEncE X cs = 0 ∧ bEncB X cs = wholeB (coreB X (pack (cbits cs))) := by
  have h1 : encE cs = 0 := by unfold encE; rw [if_neg (by omega), if_pos hc]
  have h2 : bEncE X cs = 0 := by unfold bEncE; rw [if_pos hx, h1]
  exact ⟨h2, by unfold bEncB; rw [if_pos h2]⟩
theorem snd_dec {X : Clm} {cs : List Clm} (hx : okB X) (hc : ∀ c ∈ cs, okC c) (hl : cs.length ≤ 20) : decB (wholeB (coreB X (pack (cbits cs)))) = .inr (X, cs) := by
  have hcl := core_len20 hx hl
  have hpl : (pack (cbits cs)).length ≤ 800 := by
    rw [pack_length]
    have := cbits_length cs
    omega
  rw [decB_whole (by omega), inB_core (okB_i64 hx) (by omega)]
  have hd : refDecode (pack (cbits cs)) = some cs := by
    rw [← decode_eq_ref _ (pack_bytes _)]
    exact decode_enc cs hc (by omega)
  rw [hd]
  simp only
  rw [if_pos hx]
/- what the law asks of the bytes -/
theorem snd_bytes {X : Clm} {cs : List Clm} (hx : okB X) (hc : ∀ c ∈ cs, okC c) (hl : cs.length ≤ 20) : Bytes (bEncB X cs) ∧ (bEncB X cs).length ≤ 2020 ∧ decB (bEncB X cs) = .inr (X, cs) := by
  obtain ⟨h1, h2⟩ := snd_enc hx hc hl
  rw [h2]
  exact ⟨by unfold wholeB; exact bytes_app (rawB_bytes (coreB_bytes X (pack_bytes _))) (vint_bytes _), whole_len20 (core_len20 hx hl), snd_dec hx hc hl⟩
end Go.Proofs.YtgkmfblmkfclbaaGreatDoor
namespace Go.Proofs.YtgkmfblmkfclbaaGreatDoor
open Go.RowKit Pl

theorem eq4 (c d : Clm) : decide (c = d) = (c.1 == d.1 && (c.2.1 == d.2.1 && (c.2.2.1 == d.2.2.1 && c.2.2.2 == d.2.2.2))) := by
  obtain ⟨a0, a1, a2, a3⟩ := c
  obtain ⟨b0, b1, b2, b3⟩ := d
  rw [Bool.eq_iff_iff]
  simp
theorem equal4 (c d : Clm) (w : World) : (Op.equalIn 10000 82 (.agg #[.int .i64 c.1, .int .i64 c.2.1, .int .i64 c.2.2.1, .int .i64 c.2.2.2]) (.agg #[.int .i64 d.1, .int .i64 d.2.1, .int .i64 d.2.2.1, .int .i64 d.2.2.2])).run Tryz.prog w = .ok (decide (c = d)) w := by
  rw [eq4]
  rw [run_equalIn_struct w 9999 82 _ _ (by kernel_rfl) (by kernel_rfl)]
  generalize c.1 = c0
  generalize c.2.1 = c1
  generalize c.2.2.1 = c2
  generalize c.2.2.2 = c3
  generalize d.1 = d0
  generalize d.2.1 = d1
  generalize d.2.2.1 = d2
  generalize d.2.2.2 = d3
  unfold Program.fieldsOf
  rw [Tryz.underlying82]
  simp [go_sem, Op.eqFields, part, Tryz.underlying3]
  by_cases h0 : c0 = d0 <;> by_cases h1 : c1 = d1 <;> by_cases h2 : c2 = d2 <;> by_cases h3 : c3 = d3 <;> simp [h0, h1, h2, h3]

theorem neq4 (c d : Clm) (b : Bool) (hb : decide (c = d) = b) (w : World) : (binOp .neq 82 (.agg #[.int .i64 c.1, .int .i64 c.2.1, .int .i64 c.2.2.1, .int .i64 c.2.2.2]) (.agg #[.int .i64 d.1, .int .i64 d.2.1, .int .i64 d.2.2.1, .int .i64 d.2.2.2])).run Tryz.prog w = .ok (.bool (!b)) w := by
  rw [run_neq_struct, equal4, hb]; rfl

end Go.Proofs.YtgkmfblmkfclbaaGreatDoor
namespace Go.Proofs.YtgkmfblmkfclbaaGreatDoor
open Go.RowKit Pl

set_option maxHeartbeats 3200000 in
set_option maxRecDepth 100000 in
theorem equalC_any (v u : Value) (xs ys : List Clm) (w : World) (h : RdC w w.heap.size v xs) (k : RdC w w.heap.size u ys) (hl : xs.length ≤ 1099511627776) (hl' : ys.length ≤ 1099511627776) :
    Calls Tryz.prog 43 #[v, u] w fun e w' => e = .returned (.bool (decide (xs = ys))) ∧ ∃ n, w' = w.drewN n := by
  obtain ⟨A, n, c, rfl, hn, hc⟩ := h.form
  obtain ⟨B, n', d, rfl, hn', hd⟩ := k.form
  have hnl : n ≤ 1099511627776 := by omega
  have hnl' : n' ≤ 1099511627776 := by omega
  have HN := Lib.hid hn
  have HN' := Lib.hid hn'
  by_cases hne : n ≠ n'
  · have t0 : ((n : Int) != (n' : Int)) = true := by rw [bne_iff_ne]; omega
    have hD : decide (xs = ys) = false := by
      rw [decide_eq_false_iff_not]
      rintro rfl
      omega
    have HD := Lib.hid hD
    clear hn hn' hne hD
    go_enter Tryz.func43, Tryz.ntmps43
    go_wp2_with fail
    go_ret
    exact ⟨by rw [HD.out]; rfl, 0, rfl⟩
  obtain rfl : n = n' := by omega
  clear hn hn' hne
  have t0 : ((n : Int) != (n : Int)) = false := by simp
  go_enter Tryz.func43, Tryz.ntmps43
  go_wp2_with fail
  go_loopw [13] (fun i wr => ∃ (j m : Nat), j ≤ n ∧ i = .int .i64 j ∧ wr = w.drewN m ∧ xs.take j = ys.take j) (fun i _ => n - (intOf i).toNat)
  case atStart => exact ⟨0, 0, by omega, rfl, rfl, by simp⟩
  case round =>
    obtain ⟨j, m, hj, rfl, rfl, htake⟩ := hrel
    have HTK := Lib.hid htake
    clear htake
    by_cases hlt : j < n
    · have hjx : j < xs.length := by rw [← HN.out]; exact hlt
      have hjy : j < ys.length := by rw [← HN'.out]; exact hlt
      obtain ⟨b1, o1, rfl, hb1, x0, x1, x2, x3⟩ := h.four hjx
      obtain ⟨b2, o2, rfl, hb2, y0, y1, y2, y3⟩ := k.four hjy
      have ex : xs[j]? = some (xs.getD j zc) := by rw [List.getD_eq_getElem?_getD, List.getElem?_eq_getElem hjx]; rfl
      have ey : ys[j]? = some (ys.getD j zc) := by rw [List.getD_eq_getElem?_getD, List.getElem?_eq_getElem hjy]; rfl
      have HX := Lib.hid ex
      have HY := Lib.hid ey
      clear ex ey hjx hjy
      generalize xs.getD j zc = x at *
      generalize ys.getD j zc = y at *
      by_cases hxy : x = y
      · subst hxy
        have HS := Lib.hid (take_eq_step HTK.out (HX.out.trans HY.out.symm))
        have hnq := neq4 x x true (by simp)
        go_wp2_with fail
        go_quiet (fail)
        go_wp2_with fail
        go_roundw
        case rel => exact ⟨j + 1, _, by omega, by go_num, rfl, HS.out⟩
        case measure => simp [intOf]; omega
      · have hD : decide (xs = ys) = false := by
          rw [decide_eq_false_iff_not]
          rintro rfl
          have := HX.out.symm.trans HY.out
          exact hxy (Option.some.inj this)
        have HD := Lib.hid hD
        have hnq := neq4 x y false (by simpa using hxy)
        clear hD hxy
        go_wp2_with fail
        go_quiet (fail)
        go_wp2_with fail
        go_ret
        exact ⟨by rw [HD.out]; rfl, _, World.drewN_drewN _ _ _⟩
    · have hD : decide (xs = ys) = true := by
        rw [decide_eq_true_eq]
        have := HTK.out
        rwa [List.take_of_length_le (by rw [← HN.out]; omega), List.take_of_length_le (by rw [← HN'.out]; omega)] at this
      have HD := Lib.hid hD
      clear hD
      go_wp2_with fail
      go_ret
      exact ⟨by rw [HD.out]; rfl, _, rfl⟩

set_option maxHeartbeats 6400000 in
set_option maxRecDepth 100000 in
theorem bequal_any (x y : Clm) (v u : Value) (xs ys : List Clm) (w : World) (h : RdC w w.heap.size v xs) (k : RdC w w.heap.size u ys) (hl : xs.length ≤ 1099511627776) (hl' : ys.length ≤ 1099511627776) :
    Calls Tryz.prog 12 #[vbl x v, vbl y u] w fun e w' => e = .returned (.bool (decide (x = y ∧ xs = ys))) ∧ Grew w w' := by
  have HG := Lib.hid (((Grew.refl w).alloc (.cells (cells5 x v).toArray 39)).alloc (.cells (cells5 y u).toArray 39))
  have HB := Lib.hid ((Box.new w 39 (cells5 x v).toArray).alloc (.cells (cells5 y u).toArray 39))
  have HN := Lib.hid (Box.new (w.alloc (.cells (cells5 x v).toArray 39)) 39 (cells5 y u).toArray)
  rw [World.size_alloc] at HN
  have hsz := HG.out.size
  have HE := Lib.hid (equalC_any v u xs ys _ ((h.grew (Nat.le_refl _) HG.out).more hsz) ((k.grew (Nat.le_refl _) HG.out).more hsz) hl hl')
  obtain ⟨A, n, c, rfl, hn, hc⟩ := h.form
  obtain ⟨B, n', d, rfl, hn', hd⟩ := k.form
  obtain ⟨D, hD⟩ : ∃ D, D = decide (x = y ∧ xs = ys) := ⟨_, rfl⟩
  rw [← hD]
  have no : ¬ (x = y) → D = false := fun e => by rw [hD, decide_eq_false_iff_not]; exact fun e2 => e e2.1
  have NO := Lib.hid no
  have HD := Lib.hid hD
  clear hD no hn hn' h k hc hd
  unfold vbl
  go_enter Tryz.func12, Tryz.ntmps12
  go_upto_region 1 with fail
  change Code.wp _ _ _ _ ((w.alloc (.cells (cells5 x (.slice A n c)).toArray 39)).alloc (.cells (cells5 y (.slice B n' d)).toArray 39))
  generalize (w.alloc (.cells (cells5 x (.slice A n c)).toArray 39)).alloc (.cells (cells5 y (.slice B n' d)).toArray 39) = w1 at *
  obtain ⟨c0, c1, c2, c3, c4⟩ := HB.out.five
  obtain ⟨d0, d1, d2, d3, d4⟩ := HN.out.five
  by_cases h0 : x.1 = y.1
  rotate_left
  · obtain rfl := NO.out (fun e => h0 (by rw [e]))
    have t0 : (x.1 == y.1) = false := by simp [h0]
    clear NO HD
    go_wp2_with fail
    go_ret
    exact ⟨rfl, HG.out⟩
  have t0 : (x.1 == y.1) = true := by simp [h0]
  have H0 := Lib.hid h0
  clear h0
  by_cases h1 : x.2.1 = y.2.1
  rotate_left
  · obtain rfl := NO.out (fun e => h1 (by rw [e]))
    have t1 : (x.2.1 == y.2.1) = false := by simp [h1]
    clear NO HD
    go_wp2_with fail
    go_ret
    exact ⟨rfl, HG.out⟩
  have t1 : (x.2.1 == y.2.1) = true := by simp [h1]
  have H1 := Lib.hid h1
  clear h1
  by_cases h2 : x.2.2.1 = y.2.2.1
  rotate_left
  · obtain rfl := NO.out (fun e => h2 (by rw [e]))
    have t2 : (x.2.2.1 == y.2.2.1) = false := by simp [h2]
    clear NO HD
    go_wp2_with fail
    go_ret
    exact ⟨rfl, HG.out⟩
  have t2 : (x.2.2.1 == y.2.2.1) = true := by simp [h2]
  have H2 := Lib.hid h2
  clear h2
  by_cases h3 : x.2.2.2 = y.2.2.2
  rotate_left
  · obtain rfl := NO.out (fun e => h3 (by rw [e]))
    have t3 : (x.2.2.2 == y.2.2.2) = false := by simp [h3]
    clear NO HD
    go_wp2_with fail
    go_ret
    exact ⟨rfl, HG.out⟩
  have t3 : (x.2.2.2 == y.2.2.2) = true := by simp [h3]
  have H3 := Lib.hid h3
  clear h3
  have hxy : x = y := by
    obtain ⟨x0, x1, x2, x3⟩ := x
    obtain ⟨y0, y1, y2, y3⟩ := y
    have e0 := H0.out
    have e1 := H1.out
    have e2 := H2.out
    have e3 := H3.out
    simp only at e0 e1 e2 e3
    rw [e0, e1, e2, e3]
  have hDD : D = decide (xs = ys) := by rw [HD.out]; simp [hxy]
  have HDD := Lib.hid hDD
  clear hxy hDD NO HD H0 H1 H2 H3
  go_wp2_with fail
  refine HE.out.mono ?_
  rintro e w2 ⟨rfl, n2, h2⟩
  have g2 : Grew w1 w2 := by rw [h2]; exact (Grew.refl w1).drewN n2
  rw [← HDD.out]
  clear h2 HDD
  go_wp2_with fail
  go_ret
  exact ⟨rfl, HG.out.trans g2⟩

end Go.Proofs.YtgkmfblmkfclbaaGreatDoor
namespace Go.Proofs.YtgkmfblmkfclbaaGreatDoor
open Go.RowKit Pl

theorem ex_core : coreB (2, 3, 5, 1) [0] = [4, 6, 10, 2, 1, 0] := by
  unfold coreB rawB
  rw [show zig (2, 3, 5, 1).1 = 4 from rfl, show zig ((2, 3, 5, 1) : Clm).2.1 = 6 from rfl, show zig ((2, 3, 5, 1) : Clm).2.2.1 = 10 from rfl, show zig ((2, 3, 5, 1) : Clm).2.2.2 = 2 from rfl]
  rw [vint_lt (n := 4) (by omega), vint_lt (n := 6) (by omega), vint_lt (n := 10) (by omega), vint_lt (n := 2) (by omega), vint_lt (n := [0].length) (by decide)]
  rfl
theorem ex_cbits : pack (cbits []) = [0] := by decide +kernel
theorem ex_ok : okB (2, 3, 5, 1) := by decide
theorem ex_no : ¬ okB (0, 0, 0, 1) := by decide
theorem ex_E : bEncE (2, 3, 5, 1) [] = 0 := by unfold bEncE; rw [if_pos ex_ok]; rfl
theorem ex_B : bEncB (2, 3, 5, 1) [] = wholeB [4, 6, 10, 2, 1, 0] := by unfold bEncB; rw [if_pos ex_E, ex_cbits, ex_core]
theorem ex_F : bEncE (0, 0, 0, 1) [] = 1 := by unfold bEncE; rw [if_neg ex_no]

set_option maxHeartbeats 3200000 in
set_option maxRecDepth 100000 in
theorem lives18_any (w : World) (ht : Tab w w.heap.size) (hp : PTab w w.heap.size) :
    Calls Tryz.prog 7 #[] w fun e w' => e = .returned (.bool true) ∧ Grew w w' := by
  have h1 := bencode_any (2, 3, 5, 1) (.slice none 0 0) [] w (RdC.nil _ _) (by simp) ht hp
  unfold vbl at h1
  have H1 := Lib.hid h1
  have HT := Lib.hid ht
  have HP := Lib.hid hp
  clear h1 ht hp
  go_enter Tryz.func7, Tryz.ntmps7
  go_wp2_with fail
  refine H1.out.mono ?_
  rintro e w2 ⟨v2, rfl, k1, k2⟩
  rw [ex_E]
  rw [ex_B] at k1
  obtain ⟨A2, n2, c2, rfl, -⟩ := k1.slice
  have h2 := bencode_any (0, 0, 0, 1) (.slice none 0 0) [] w2 (RdC.nil _ _) (by simp) (HT.out.on k2) (HP.out.on k2)
  unfold vbl at h2
  have H2 := Lib.hid h2
  clear h2 H1
  go_wp2_with fail
  refine H2.out.mono ?_
  rintro e w3 ⟨v3, rfl, m1, m2⟩
  rw [ex_F]
  have hG3 := k2.trans m2
  have k3 := k1.grew m2
  clear H2 m1 m2 k1 k2
  have r3 : Rd (w3.alloc (.cells #[.int .u8 4, .int .u8 6, .int .u8 10, .int .u8 2, .int .u8 1, .int .u8 0] 5)) (w3.heap.size + 1) (.slice (some ⟨w3.heap.size, 0, none⟩) 6 6) ([4, 6, 10, 2, 1, 0].map vb) := Rd.laid w3 _ _
  have r4 := r3.alloc (by rw [World.size_alloc]; omega) (.cells #[.slice none 0 0] 62)
  have hW4 : WW ((w3.alloc (.cells #[.int .u8 4, .int .u8 6, .int .u8 10, .int .u8 2, .int .u8 1, .int .u8 0] 5)).alloc (.cells #[.slice none 0 0] 62)) (w3.heap.size + 1) (w3.heap.size + 1) (.slice none 0 0) [] := by
    have := Box.new (w3.alloc (.cells #[.int .u8 4, .int .u8 6, .int .u8 10, .int .u8 2, .int .u8 1, .int .u8 0] 5)) 62 #[.slice none 0 0]
    rw [World.size_alloc] at this
    exact ⟨this, Mine.nil _ _ _⟩
  have hG4 : Grew w ((w3.alloc (.cells #[.int .u8 4, .int .u8 6, .int .u8 10, .int .u8 2, .int .u8 1, .int .u8 0] 5)).alloc (.cells #[.slice none 0 0] 62)) := (hG3.alloc _).alloc _
  have hg4 : Grew w3 ((w3.alloc (.cells #[.int .u8 4, .int .u8 6, .int .u8 10, .int .u8 2, .int .u8 1, .int .u8 0] 5)).alloc (.cells #[.slice none 0 0] 62)) := ((Grew.refl w3).alloc _).alloc _
  have hs4 : ((w3.alloc (.cells #[.int .u8 4, .int .u8 6, .int .u8 10, .int .u8 2, .int .u8 1, .int .u8 0] 5)).alloc (.cells #[.slice none 0 0] 62)).heap.size = w3.heap.size + 2 := by simp
  have HRw := Lib.hid (wraw_any (w3.heap.size + 1) (w3.heap.size + 1) _ (.slice (some ⟨w3.heap.size, 0, none⟩) 6 6) [] [4, 6, 10, 2, 1, 0] _ hW4 (r4.more (by omega)) (fun k e => ⟨by (have : w3.heap.size = k := (by simpa [Value.ownBlock] using e)); omega, fun e2 => by cases e2⟩) (by simp) (by simp) (by omega))
  have k4 := k3.grew hg4
  have hbk : ∀ k, (Value.slice A2 n2 c2).ownBlock = some k → k < w3.heap.size := fun k e => (k3.lt k e).2
  have HBK := Lib.hid hbk
  clear r3 k3 hbk hg4
  go_wp2_with fail
  generalize ((w3.alloc (.cells #[.int .u8 4, .int .u8 6, .int .u8 10, .int .u8 2, .int .u8 1, .int .u8 0] 5)).alloc (.cells #[.slice none 0 0] 62)) = W4 at *
  refine HRw.out.mono ?_
  rintro e w5 ⟨rfl, u5, a5, b5, m5⟩
  have hsm : ∀ i, i < w3.heap.size + 1 → ¬ (i = w3.heap.size + 1 ∨ (Value.slice none 0 0).ownBlock = some i) := fun i hi e => by
    rcases e with e | e
    · omega
    · cases e
  have r5 := r4.keep (by omega) b5 hsm
  have k5 := k4.keep b5 (fun k e e2 => by
    rcases e2 with e2 | e2
    · have := HBK.out k e; omega
    · cases e2)
  have hs5 := b5.size
  have hw3 : w.heap.size ≤ w3.heap.size := hG3.size
  have hG5 := b5.grewW hG4 hW4 (by omega) (by omega)
  have HHb := Lib.hid (hbytes_any ⟨#[98, 108, 111, 99, 107]⟩ blockL _ [4, 6, 10, 2, 1, 0] w5 rfl blockL_bytes (by decide) (r5.more (by omega)) (by intro x hx; simp at hx; omega) (by simp))
  have hhl := hashB_lt blockL [4, 6, 10, 2, 1, 0]
  have HWB := Lib.hid (show wholeB [4, 6, 10, 2, 1, 0] = [] ++ rawB [4, 6, 10, 2, 1, 0] ++ vint (hashB blockL [4, 6, 10, 2, 1, 0]) by unfold wholeB; rw [List.nil_append])
  generalize hashB blockL [4, 6, 10, 2, 1, 0] = hv at *
  have hrl : (rawB [4, 6, 10, 2, 1, 0]).length ≤ 100 := by
    unfold rawB
    rw [List.length_append]
    have h6 : ([4, 6, 10, 2, 1, 0] : List Nat).length = 6 := rfl
    rw [h6]
    have := vint_len10 (n := 6) (by omega)
    omega
  clear HRw hW4 hG4 r4 k4 b5 m5 hsm
  go_wp2_with fail
  refine HHb.out.mono ?_
  rintro e w6 ⟨rfl, g6⟩
  have a6 : WW w6 (w3.heap.size + 1) (w3.heap.size + 1) u5 ([] ++ rawB [4, 6, 10, 2, 1, 0]) := ⟨a5.1.grew g6, a5.2.grew g6⟩
  have k6 := k5.grew g6
  have hG6 := hG5.trans g6
  have hs6 := g6.size
  have HU := Lib.hid (wuint_any (w3.heap.size + 1) (w3.heap.size + 1) u5 _ hv w6 a6 hhl (by rw [List.nil_append]; omega) (by omega))
  clear HHb a5 k5 hG5 r5
  go_wp2_with fail
  refine HU.out.mono ?_
  rintro e w7 ⟨rfl, u7, a7, b7, m7⟩
  rw [← HWB.out] at a7
  have hG7 := b7.grewW hG6 a6 (by omega) (by omega)
  have k7 := k6.keep b7 (fun k e e2 => by
    rcases e2 with e2 | e2
    · have := HBK.out k e; omega
    · have := HBK.out k e; have := (a6.2.lt k e2).1; omega)
  have hwl : (wholeB [4, 6, 10, 2, 1, 0]).length ≤ 200 := by
    rw [HWB.out, List.nil_append, List.length_append]
    have := vint_len10 hhl
    omega
  have HDn := Lib.hid (wwdone_any (w3.heap.size + 1) (w3.heap.size + 1) u7 _ w7 a7 (by omega))
  clear HU a6 b7 m7 k6 hG6
  generalize wholeB [4, 6, 10, 2, 1, 0] = wh at *
  go_wp2_with fail
  refine HDn.out.mono ?_
  rintro e w8 ⟨v8, rfl, d1, d2⟩
  have HS := Lib.hid (sameBytes_any _ v8 wh wh w8 (k7.grew d2).rd d1.rd (by omega) (by omega))
  rw [show decide (wh = wh) = true from by simp] at HS
  obtain ⟨A8, n8, c8, rfl, -⟩ := d1.slice
  have hG8 := hG7.trans d2
  clear HDn
  go_wp2_with fail
  refine HS.out.mono ?_
  rintro e w9 ⟨rfl, n9, h9⟩
  have g89 : Grew w8 w9 := by rw [h9]; exact (Grew.refl w8).drewN n9
  clear h9
  go_wp2_with fail
  go_ret
  exact ⟨rfl, hG8.trans g89⟩
end Go.Proofs.YtgkmfblmkfclbaaGreatDoor
