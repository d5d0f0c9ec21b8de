/- wire.Writer: numbers and byte slices appended. wire.Writer: signed numbers, byte slices, the bytes so far. intervalmonref01: the comparisons of slices. The reference: copies of slices, numbers, streams of bits. -/
import Derived.Test.YtgajmhpnilkmiaaDoorCodecKeysP05
import Derived.Deep.QuietTactic
import Derived.BigQuiet
namespace Go.Proofs.YtgajmhpnilkmiaaDoor
open Go.RowKit Pl

/- the bytes of a number -/
def vint (n : Nat) : List Nat := if h : n < 128 then [n] else (n % 128 + 128) :: vint (n / 128)
termination_by n
decreasing_by omega
theorem vint_lt {n : Nat} (h : n < 128) : vint n = [n] := by rw [vint, dif_pos h]
theorem vint_ge {n : Nat} (h : ¬ n < 128) : vint n = (n % 128 + 128) :: vint (n / 128) := by rw [vint, dif_neg h]
theorem vint_len (n k : Nat) (h : n < 128 ^ (k + 1)) : (vint n).length ≤ k + 1 := by
  induction k generalizing n with
  | zero => rw [vint_lt (by simpa using h)]; simp
  | succ k ih =>
    by_cases h1 : n < 128
    · rw [vint_lt h1]; simp
    · rw [vint_ge h1, List.length_cons]
      have := ih (n / 128) (by rw [Nat.div_lt_iff_lt_mul (by omega), ← Nat.pow_succ]; exact h)
      omega
theorem vint_len10 {n : Nat} (h : n < 18446744073709551616) : (vint n).length ≤ 10 := vint_len n 9 (Nat.lt_trans h (by decide))
theorem vint_bytes (n : Nat) : Bytes (vint n) := by
  intro x hx
  induction n using Nat.strongRecOn with
  | _ n ih =>
    by_cases h : n < 128
    · rw [vint_lt h] at hx; simp at hx; omega
    · rw [vint_ge h] at hx
      rcases List.mem_cons.1 hx with rfl | hx
      · omega
      · exact ih (n / 128) (by omega) hx
theorem or128 (x : Nat) (h : x < 256) : x ||| 128 = x % 128 + 128 := by
  have key : ∀ x : Fin 256, x.1 ||| 128 = x.1 % 128 + 128 := by decide +kernel
  exact key ⟨x, h⟩

def WW (w : World) (base g : Nat) (v : Value) (bs : List Nat) : Prop := Box w g 35 #[v] ∧ Mine w base 5 v (bs.map vb)
theorem WW.form {w : World} {base g : Nat} {v : Value} {bs : List Nat} (h : WW w base g v bs) : ∃ A n c, v = .slice A n c := by
  obtain ⟨A, c, rfl, _⟩ := h.2.rd
  exact ⟨_, _, _, rfl⟩
theorem WW.step {w w1 : World} {base g : Nat} {v v' : Value} {bs ys : List Nat} (h : WW w base g v bs) (hm : Mine w1 base 5 v' ((bs ++ ys).map vb)) (hk : Keeps (fun i => v.ownBlock = some i) w w1) :
    WW (w1.setCell ⟨g, 0, none⟩ v') base g v' (bs ++ ys) ∧ KeepsW g v w (w1.setCell ⟨g, 0, none⟩ v') := by
  have hg1 : ¬ v.ownBlock = some g := fun e => h.2.ne_box e h.1 (by decide) rfl
  have hbox := h.1.keep hk hg1
  refine ⟨⟨by simpa using hbox.set_ 0 v', hm.far (fun e => hm.ne_box e hbox (by decide) rfl) _⟩, ?_⟩
  exact (Keeps.mono hk (fun i _ e => .inr e)).setCell (.inl (.inl rfl)) _

set_option maxHeartbeats 3200000 in
set_option maxRecDepth 100000 in
theorem wuint_any (g base : Nat) (v : Value) (bs : List Nat) (n : Nat) (w : World) (h : WW w base g v bs) (hn : n < 18446744073709551616) (hl : bs.length < 1000000000) (hb : base ≤ w.heap.size) :
    Calls Tryd.prog 40 #[.pointer (some ⟨g, 0, none⟩), .int .u64 (n : Nat)] w fun e w' => e = .returned (.tuple #[]) ∧
      ∃ v', WW w' base g v' (bs ++ vint n) ∧ KeepsW g v w w' ∧ Moved w v v' := by
  have hvl := vint_len10 hn
  have H := Lib.hid h
  clear h
  go_enter Tryd.func40, Tryd.ntmps40
  go_wp2_with fail
  go_loopw [1] (fun x wr => ∃ (m : Nat) (v' : Value) (pre : List Nat), x = .int .u64 (m : Nat) ∧ m < 18446744073709551616 ∧ WW wr base g v' (bs ++ pre) ∧ pre ++ vint m = vint n ∧ KeepsW g v w wr ∧ Moved w v v') (fun x _ => (intOf x).toNat)
  case atStart => exact ⟨n, v, [], rfl, hn, by simpa using H.out, rfl, Keeps.refl _ _, Moved.refl _ _⟩
  case round =>
    clear H
    obtain ⟨m, v', pre, rfl, hm, hW, hpre, hK, hMv⟩ := hrel
    have hpl : pre.length ≤ 10 := by
      have := congrArg List.length hpre
      rw [List.length_append] at this; omega
    have HPRE := Lib.hid hpre
    obtain ⟨A, q, c, rfl⟩ := hW.form
    have c0 := hW.1.cell 0
    have f0 := hW.1.frozen 0
    have hlt := hW.1.lt
    have hszw := hK.size
    simp only [List.getElem?_toArray, List.getElem?_cons_zero] at c0
    have hbl : ((bs ++ pre).map vb).length < 1099511627776 := by simp; omega
    clear hpre
    by_cases h128 : m < 128
    · have t0 : decide ((128 : Int) ≤ (m : Int)) = false := by simp; omega
      go_wp2_with (at_builtin; refine app_one slU8 rfl (.tmp 24) (.tmp 27) rfl rfl (hW.2.alloc _) wr.heap.size 1 (.int .u8 (m : Nat)) rfl (Nat.le_refl _) (by simp) (by simp) rfl hbl (by simp; omega) ?_; intro r cap w1 hM1 hk1 hr1 hbr1 hlr1; obtain ⟨q2, hq2⟩ : ∃ q2, q2 = ((bs ++ pre).map vb).length + 1 := ⟨_, rfl⟩; rw [← hq2] at hM1 ⊢; clear hq2; have hb1 := (hW.1.alloc _).keep hk1 (fun e => hW.2.ne_box e hW.1 (by decide) rfl); have k0 := hb1.cell 0; have e0 := hb1.frozen 0; simp only [List.getElem?_toArray, List.getElem?_cons_zero] at k0; clear c0 f0)
      go_end0
      have hS := WW.step (w := wr.alloc (.cells #[.int .u8 (m : Nat)] 5)) (ys := [m]) ⟨hW.1.alloc _, hW.2.alloc _⟩ (by rw [List.map_append]; exact hM1) hk1
      have hMm : Moved wr (.slice A q c) (.slice (some ⟨r, 0, none⟩) q2 cap) := (fun k hk => by
          have : r = k := by simpa [Value.ownBlock] using hk
          subst this
          rcases hr1 with e | e
          · exact .inl e.symm
          · simp only [World.size_alloc] at e; exact .inr (by omega))
      rw [vint_lt h128] at HPRE
      exact ⟨rfl, _, by rw [← HPRE.out, ← List.append_assoc]; exact hS.1, KeepsW.trans (w1 := wr.alloc (.cells #[.int .u8 (m : Nat)] 5)) (Keeps.alloc hK _) hMv hS.2, Moved.trans hMv hszw hMm⟩
    · have t0 : decide ((128 : Int) ≤ (m : Int)) = true := by simp; omega
      have hor : bits BinOp.or IntKind.u8 ((m : Int) % 256) 128 = ((m % 128 + 128 : Nat) : Int) := by
        have e1 : ((m : Int) % 256) = ((m % 256 : Nat) : Int) := by omega
        have h1 := u8_or_nat (m % 256) 128 (by omega) (by omega)
        rw [e1]
        rw [show ((128 : Nat) : Int) = 128 from rfl] at h1
        rw [h1, or128 _ (by omega)]
        congr 1; omega
      have HOR := Lib.hid hor
      clear hor
      go_wp2_with (at_builtin; refine app_one slU8 rfl (.tmp 10) (.tmp 14) rfl rfl (hW.2.alloc _) wr.heap.size 1 (.int .u8 (bits BinOp.or IntKind.u8 ((m : Int) % 256) 128)) rfl (Nat.le_refl _) (by simp) (by simp) rfl hbl (by simp; omega) ?_; intro r cap w1 hM1 hk1 hr1 hbr1 hlr1; obtain ⟨q2, hq2⟩ : ∃ q2, q2 = ((bs ++ pre).map vb).length + 1 := ⟨_, rfl⟩; rw [← hq2] at hM1 ⊢; clear hq2; have hb1 := (hW.1.alloc _).keep hk1 (fun e => hW.2.ne_box e hW.1 (by decide) rfl); have k0 := hb1.cell 0; have e0 := hb1.frozen 0; simp only [List.getElem?_toArray, List.getElem?_cons_zero] at k0; clear c0 f0)
      have hS := WW.step (w := wr.alloc (.cells #[.int .u8 (bits BinOp.or IntKind.u8 ((m : Int) % 256) 128)] 5)) (ys := [m % 128 + 128]) ⟨hW.1.alloc _, hW.2.alloc _⟩ (by rw [List.map_append]; rw [HOR.out] at hM1; exact hM1) hk1
      have hMm : Moved wr (.slice A q c) (.slice (some ⟨r, 0, none⟩) q2 cap) := (fun k hk => by
          have : r = k := by simpa [Value.ownBlock] using hk
          subst this
          rcases hr1 with e | e
          · exact .inl e.symm
          · simp only [World.size_alloc] at e; exact .inr (by omega))
      rw [vint_ge h128] at HPRE
      have hsh : (m : Int) / 128 = ((m / 128 : Nat) : Int) := by omega
      go_roundw
      case rel => exact ⟨m / 128, _, pre ++ [m % 128 + 128], by rw [← hsh], by omega, by rw [← List.append_assoc]; exact hS.1, by rw [List.append_assoc]; exact HPRE.out, KeepsW.trans (w1 := wr.alloc (.cells #[.int .u8 (bits BinOp.or IntKind.u8 ((m : Int) % 256) 128)] 5)) (Keeps.alloc hK _) hMv hS.2, Moved.trans hMv hszw hMm⟩
      case measure => simp [intOf]; omega
end Go.Proofs.YtgajmhpnilkmiaaDoor
namespace Go.Proofs.YtgajmhpnilkmiaaDoor
open Go.RowKit Pl

set_option maxHeartbeats 1600000 in
theorem wint_any (g base : Nat) (v : Value) (bs : List Nat) (n : Int) (w : World) (h : WW w base g v bs) (hn : I64 n) (hl : bs.length < 1000000000) (hb : base ≤ w.heap.size) :
    Calls Tryd.prog 52 #[.pointer (some ⟨g, 0, none⟩), .int .i64 n] w fun e w' => e = .returned (.tuple #[]) ∧
      ∃ v', WW w' base g v' (bs ++ vint (zig n)) ∧ KeepsW g v w w' ∧ Moved w v v' := by
  have hzb := zig_bits n hn
  have HU := Lib.hid (wuint_any g base v bs (zig n) w h (zig_lt hn) hl hb)
  obtain ⟨hn1, hn2⟩ := hn
  clear h
  generalize zig n = z at *
  go_enter Tryd.func52, Tryd.ntmps52
  go_wp2_with fail
  refine HU.out.mono ?_
  rintro e w2 ⟨rfl, v2, k1, k2, k3⟩
  go_wp2_with fail
  go_end0
  exact ⟨rfl, v2, k1, k2, k3⟩

def rawB (xs : List Nat) : List Nat := vint xs.length ++ xs
set_option maxHeartbeats 1600000 in
theorem wraw_any (g base : Nat) (v u : Value) (bs xs : List Nat) (w : World) (h : WW w base g v bs) (hx : Rd w w.heap.size u (xs.map vb)) (hux : ∀ k, u.ownBlock = some k → k ≠ g ∧ v.ownBlock ≠ some k) (hl : bs.length < 900000000) (hxl : xs.length ≤ 1000000) (hb : base ≤ w.heap.size) :
    Calls Tryd.prog 10 #[.pointer (some ⟨g, 0, none⟩), u] w fun e w' => e = .returned (.tuple #[]) ∧
      ∃ v', WW w' base g v' (bs ++ rawB xs) ∧ KeepsW g v w w' ∧ Moved w v v' := by
  obtain ⟨A, n, c, rfl, hn, hc⟩ := hx.form
  rw [List.length_map] at hn
  have hvl : (vint n).length ≤ 10 := vint_len10 (by omega)
  have hnl : n ≤ 1000000 := by omega
  have HU := Lib.hid (wuint_any g base v bs n w h (by omega) (by omega) hb)
  have HN := Lib.hid hn
  have hkeepR : ∀ w2 : World, KeepsW g v w w2 → Rd w2 w2.heap.size (.slice A n c) (xs.map vb) := by
    intro w2 hk
    obtain ⟨A', c', hv, hc', hxx⟩ := hx
    refine ⟨A', c', hv, hc', fun h0 => ?_⟩
    obtain ⟨ad, e, hbl, hcell⟩ := hxx h0
    injection hv with hA
    subst hA
    subst e
    have hne := hux ad.block rfl
    refine ⟨ad, rfl, Nat.lt_of_lt_of_le hbl hk.size, fun j y hy => (World.cell?_of_block ?_).trans (hcell j y hy)⟩
    rw [block_add]
    exact hk.block _ hbl (fun e => by
      rcases e with e | e
      · exact hne.1 e
      · exact hne.2 e)
  have HK := Lib.hid hkeepR
  clear hn hx hux hkeepR h
  go_enter Tryd.func10, Tryd.ntmps10
  go_wp2_with fail
  refine HU.out.mono ?_
  rintro e w2 ⟨rfl, v2, k1, k2, k3⟩
  have hr2 := HK.out w2 k2
  obtain ⟨A2, n2, c2, rfl⟩ := k1.form
  have c0 := k1.1.cell 0
  have f0 := k1.1.frozen 0
  have hlt := k1.1.lt
  simp only [List.getElem?_toArray, List.getElem?_cons_zero] at c0
  have hs2 := k2.size
  clear HU HK
  go_wp2_with (at_builtin; refine app_any slU8 rfl (.tmp 13) (.tmp 14) rfl rfl k1.2 rfl hr2 (one_vb _) (by simp only [List.length_map, List.length_append]; rw [← HN.out]; omega) (Nat.le_trans hb hs2) ?_; intro A3 m3 c3 w3 hm3 hM3 hk3 hr3; have hb3 := k1.1.keep hk3 (fun e => k1.2.ne_box e k1.1 (by decide) rfl); have k0 := hb3.cell 0; have e0 := hb3.frozen 0; simp only [List.getElem?_toArray, List.getElem?_cons_zero] at k0; clear c0 f0 hm3)
  go_end0
  have hS := WW.step k1 (ys := xs) (by rw [List.map_append]; exact hM3) hk3
  refine ⟨rfl, _, by unfold rawB; rw [← HN.out, ← List.append_assoc]; exact hS.1, KeepsW.trans k2 k3 hS.2, Moved.trans k3 hs2 (fun k hk => ?_)⟩
  rcases hr3 with e | e
  · exact .inl (Eq.trans (Eq.symm (show (Value.slice A3 m3 c3).ownBlock = (Value.slice A2 n2 c2).ownBlock from e)) hk)
  · have e2 := Eq.trans (Eq.symm (show (Value.slice A3 m3 c3).ownBlock = some w2.heap.size from e)) hk
    injection e2 with e2
    exact .inr (by omega)

set_option maxHeartbeats 800000 in
theorem wwdone_any (g base : Nat) (v : Value) (bs : List Nat) (w : World) (h : WW w base g v bs) (hs : bs.length < 1099511627776) :
    Calls Tryd.prog 13 #[.pointer (some ⟨g, 0, none⟩)] w fun e w' => ∃ v', e = .returned v' ∧ Mine w' w.heap.size 5 v' (bs.map vb) ∧ Grew w w' := by
  have c0 := h.1.cell 0
  have hr := h.2.rd
  obtain ⟨A, n, cap, rfl⟩ : ∃ A n cap, v = .slice A n cap := h.form
  simp only [List.getElem?_toArray, List.getElem?_cons_zero] at c0
  have HC := Lib.hid (clone_any _ _ w hr (by omega))
  clear hr h
  go_enter Tryd.func13, Tryd.ntmps13
  go_wp2_with (go_at_call 43; refine HC.out.mono ?_; rintro e w2 ⟨v2, rfl, k1, k2⟩)
  go_ret
  exact ⟨_, rfl, k1, k2⟩
end Go.Proofs.YtgajmhpnilkmiaaDoor
namespace Go.Proofs.YtgajmhpnilkmiaaDoor
open Go.RowKit Pl

theorem take_eq_step {α : Type} {xs ys : List α} {j : Nat} (h : xs.take j = ys.take j) (hx : xs[j]? = ys[j]?) : xs.take (j + 1) = ys.take (j + 1) := by
  rw [List.take_add_one, List.take_add_one, h, hx]
theorem getElem?_take_ne {α : Type} {xs ys : List α} {j : Nat} (h : xs[j]? ≠ ys[j]?) : xs ≠ ys := fun e => h (by rw [e])
theorem eq_of_take {α : Type} {xs ys : List α} {n : Nat} (hx : xs.length ≤ n) (hy : ys.length ≤ n) (h : xs.take n = ys.take n) : xs = ys := by
  rwa [List.take_of_length_le hx, List.take_of_length_le hy] at h

set_option maxHeartbeats 1600000 in
theorem sameBytes_any (v u : Value) (xs ys : List Nat) (w : World) (h : Rd w w.heap.size v (xs.map vb)) (k : Rd w w.heap.size u (ys.map vb)) (hl : xs.length ≤ 1099511627776) (hl' : ys.length ≤ 1099511627776) :
    Calls Tryd.prog 49 #[v, u] w fun e w' => e = .returned (.bool (decide (xs = ys))) ∧ ∃ n, w' = w.drewN n := by
  obtain ⟨A, n, c, rfl, hn, hc⟩ := h.form
  obtain ⟨B, n', d, rfl, hn', hd⟩ := k.form
  rw [List.length_map] at hn hn'
  have hnl : n ≤ 1099511627776 := by omega
  have hnl' : n' ≤ 1099511627776 := by omega
  have HN := Lib.hid hn
  have HN' := Lib.hid hn'
  by_cases hne : n ≠ n'
  · have t0 : ((n : Int) != (n' : Int)) = true := by rw [bne_iff_ne]; omega
    have hD : decide (xs = ys) = false := by
      rw [decide_eq_false_iff_not]
      rintro rfl
      omega
    have HD := Lib.hid hD
    clear hn hn' hne hD
    go_enter Tryd.func49, Tryd.ntmps49
    go_wp2_with fail
    go_ret
    exact ⟨by rw [HD.out]; rfl, 0, rfl⟩
  obtain rfl : n = n' := by omega
  clear hn hn' hne
  have t0 : ((n : Int) != (n : Int)) = false := by simp
  go_enter Tryd.func49, Tryd.ntmps49
  go_wp2_with fail
  go_loopw [5] (fun i wr => ∃ (j m : Nat), j ≤ n ∧ i = .int .i64 j ∧ wr = w.drewN m ∧ xs.take j = ys.take j) (fun i _ => n - (intOf i).toNat)
  case atStart => exact ⟨0, 0, by omega, rfl, rfl, by simp⟩
  case round =>
    obtain ⟨j, m, hj, rfl, rfl, htake⟩ := hrel
    have HTK := Lib.hid htake
    clear htake
    by_cases hlt : j < n
    · have hjx : j < xs.length := by rw [← HN.out]; exact hlt
      have hjy : j < ys.length := by rw [← HN'.out]; exact hlt
      obtain ⟨ad, u1, rfl, hadb, hu, hcell⟩ := h.at_ (j := j) (by rw [List.length_map]; exact hjx)
      obtain ⟨ad2, u2, rfl, hadb2, hu2, hcell2⟩ := k.at_ (j := j) (by rw [List.length_map]; exact hjy)
      obtain rfl : vb xs[j] = u1 := by
        rw [List.getElem?_map, List.getElem?_eq_getElem hjx] at hu
        injection hu
      obtain rfl : vb ys[j] = u2 := by
        rw [List.getElem?_map, List.getElem?_eq_getElem hjy] at hu2
        injection hu2
      unfold vb at hcell hcell2
      clear hu hu2
      by_cases hxy : xs[j] = ys[j]
      · have hstep : xs.take (j + 1) = ys.take (j + 1) := take_eq_step HTK.out (by rw [List.getElem?_eq_getElem hjx, List.getElem?_eq_getElem hjy, hxy])
        have HS := Lib.hid hstep
        rw [← hxy] at hcell2
        clear hstep hxy
        generalize xs[j] = x at *
        clear hjx hjy
        have tx : ((x : Int) != (x : Int)) = false := by simp
        go_wp2_with fail
        go_quiet (fail)
        go_wp2_with fail
        go_roundw
        case rel => exact ⟨j + 1, _, by omega, by go_num, rfl, HS.out⟩
        case measure => simp [intOf]; omega
      · have hD : decide (xs = ys) = false := by
          rw [decide_eq_false_iff_not]
          rintro rfl
          exact hxy rfl
        have HD := Lib.hid hD
        clear hD
        generalize xs[j] = x at *
        generalize ys[j] = y at *
        have tx : ((x : Int) != (y : Int)) = true := by rw [bne_iff_ne]; omega
        clear hxy hjx hjy
        go_wp2_with fail
        go_quiet (fail)
        go_wp2_with fail
        go_ret
        exact ⟨by rw [HD.out]; rfl, _, World.drewN_drewN _ _ _⟩
    · have hD : decide (xs = ys) = true := by
        rw [decide_eq_true_eq]
        refine eq_of_take (n := j) ?_ ?_ HTK.out
        · rw [← HN.out]; omega
        · rw [← HN'.out]; omega
      have HD := Lib.hid hD
      clear hD
      go_wp2_with fail
      go_ret
      exact ⟨by rw [HD.out]; rfl, _, rfl⟩

set_option maxHeartbeats 1600000 in
theorem sameInts_any (v u : Value) (xs ys : List Int) (w : World) (h : Rd w w.heap.size v (xs.map vi)) (k : Rd w w.heap.size u (ys.map vi)) (hl : xs.length ≤ 1099511627776) (hl' : ys.length ≤ 1099511627776) :
    Calls Tryd.prog 25 #[v, u] w fun e w' => e = .returned (.bool (decide (xs = ys))) ∧ ∃ n, w' = w.drewN n := by
  obtain ⟨A, n, c, rfl, hn, hc⟩ := h.form
  obtain ⟨B, n', d, rfl, hn', hd⟩ := k.form
  rw [List.length_map] at hn hn'
  have hnl : n ≤ 1099511627776 := by omega
  have hnl' : n' ≤ 1099511627776 := by omega
  have HN := Lib.hid hn
  have HN' := Lib.hid hn'
  by_cases hne : n ≠ n'
  · have t0 : ((n : Int) != (n' : Int)) = true := by rw [bne_iff_ne]; omega
    have hD : decide (xs = ys) = false := by
      rw [decide_eq_false_iff_not]
      rintro rfl
      omega
    have HD := Lib.hid hD
    clear hn hn' hne hD
    go_enter Tryd.func25, Tryd.ntmps25
    go_wp2_with fail
    go_ret
    exact ⟨by rw [HD.out]; rfl, 0, rfl⟩
  obtain rfl : n = n' := by omega
  clear hn hn' hne
  have t0 : ((n : Int) != (n : Int)) = false := by simp
  go_enter Tryd.func25, Tryd.ntmps25
  go_wp2_with fail
  go_loopw [5] (fun i wr => ∃ (j m : Nat), j ≤ n ∧ i = .int .i64 j ∧ wr = w.drewN m ∧ xs.take j = ys.take j) (fun i _ => n - (intOf i).toNat)
  case atStart => exact ⟨0, 0, by omega, rfl, rfl, by simp⟩
  case round =>
    obtain ⟨j, m, hj, rfl, rfl, htake⟩ := hrel
    have HTK := Lib.hid htake
    clear htake
    by_cases hlt : j < n
    · have hjx : j < xs.length := by rw [← HN.out]; exact hlt
      have hjy : j < ys.length := by rw [← HN'.out]; exact hlt
      obtain ⟨ad, u1, rfl, hadb, hu, hcell⟩ := h.at_ (j := j) (by rw [List.length_map]; exact hjx)
      obtain ⟨ad2, u2, rfl, hadb2, hu2, hcell2⟩ := k.at_ (j := j) (by rw [List.length_map]; exact hjy)
      obtain rfl : vi xs[j] = u1 := by
        rw [List.getElem?_map, List.getElem?_eq_getElem hjx] at hu
        injection hu
      obtain rfl : vi ys[j] = u2 := by
        rw [List.getElem?_map, List.getElem?_eq_getElem hjy] at hu2
        injection hu2
      unfold vi at hcell hcell2
      clear hu hu2
      by_cases hxy : xs[j] = ys[j]
      · have hstep : xs.take (j + 1) = ys.take (j + 1) := take_eq_step HTK.out (by rw [List.getElem?_eq_getElem hjx, List.getElem?_eq_getElem hjy, hxy])
        have HS := Lib.hid hstep
        rw [← hxy] at hcell2
        clear hstep hxy
        generalize xs[j] = x at *
        clear hjx hjy
        have tx : (x != x) = false := by simp
        go_wp2_with fail
        go_quiet (fail)
        go_wp2_with fail
        go_roundw
        case rel => exact ⟨j + 1, _, by omega, by go_num, rfl, HS.out⟩
        case measure => simp [intOf]; omega
      · have hD : decide (xs = ys) = false := by
          rw [decide_eq_false_iff_not]
          rintro rfl
          exact hxy rfl
        have HD := Lib.hid hD
        clear hD
        generalize xs[j] = x at *
        generalize ys[j] = y at *
        have tx : (x != y) = true := by rw [bne_iff_ne]; exact hxy
        clear hxy hjx hjy
        go_wp2_with fail
        go_quiet (fail)
        go_wp2_with fail
        go_ret
        exact ⟨by rw [HD.out]; rfl, _, World.drewN_drewN _ _ _⟩
    · have hD : decide (xs = ys) = true := by
        rw [decide_eq_true_eq]
        refine eq_of_take (n := j) ?_ ?_ HTK.out
        · rw [← HN.out]; omega
        · rw [← HN'.out]; omega
      have HD := Lib.hid hD
      clear hD
      go_wp2_with fail
      go_ret
      exact ⟨by rw [HD.out]; rfl, _, rfl⟩
end Go.Proofs.YtgajmhpnilkmiaaDoor
namespace Go.Proofs.YtgajmhpnilkmiaaDoor
open Go.RowKit Pl

def vbo (b : Bool) : Value := .bool b
theorem slInt : SlT Tryd.prog 22 3 8 (.int .i64 0) := ⟨Tryd.underlying22, by kernel_rfl, rfl, by decide⟩
theorem one_vi (bs : List Int) : ∀ u ∈ bs.map vi, u.oneCell' = true := by
  intro u hu
  obtain ⟨x, _, rfl⟩ := List.mem_map.1 hu
  rfl
theorem one_vbo (bs : List Bool) : ∀ u ∈ bs.map vbo, u.oneCell' = true := by
  intro u hu
  obtain ⟨x, _, rfl⟩ := List.mem_map.1 hu
  rfl
theorem Rd.take {w : World} {B : Nat} {A : Option Addr} {n c : Nat} {xs : List Value} (h : Rd w B (.slice A n c) xs) {m : Nat} (hm : m ≤ xs.length) : Rd w B (.slice A m c) (xs.take m) := by
  obtain ⟨A', c', hv, hc, hx⟩ := h
  injection hv with hA _ hcc
  subst hA hcc
  have hl : (xs.take m).length = m := by rw [List.length_take]; omega
  refine ⟨A, c, by rw [hl], by omega, fun h0 => ?_⟩
  obtain ⟨ad, rfl, hb, hcell⟩ := hx (by omega)
  refine ⟨ad, rfl, hb, fun j u hu => hcell j u ?_⟩
  rw [List.getElem?_take] at hu
  split at hu
  · exact hu
  · cases hu

set_option maxHeartbeats 1600000 in
theorem few_any (v : Value) (xs : List Nat) (m : Nat) (w : World) (h : Rd w w.heap.size v (xs.map vb)) (hm : m ≤ 1000000000) :
    Calls Tryd.prog 27 #[v, .int .i64 (m : Nat)] w fun e w' => ∃ v', e = .returned v' ∧ Mine w' w.heap.size 5 v' ((xs.take m).map vb) ∧ Grew w w' := by
  obtain ⟨A, n, c, rfl, hn, hc⟩ := h.form
  rw [List.length_map] at hn
  have HN := Lib.hid hn
  clear hn
  by_cases hnm : n ≤ m
  · have t0 : ¬ ((m : Int) < (n : Int)) := by omega
    have h2 : Rd w w.heap.size (.slice A n c) ((xs.take m).map vb) := by
      rw [List.take_of_length_le (by rw [← HN.out]; exact hnm)]; exact h
    go_enter Tryd.func27, Tryd.ntmps27
    go_wp2_with (at_builtin; refine app_any slU8 rfl (.tmp 6) (.tmp 12) rfl rfl (Mine.nil w w.heap.size _) rfl h2 (one_vb _) (by simp; omega) (Nat.le_refl _) ?k)
    case k =>
    intro A m cap w1 hm hown hk hr
    go_wp2
    go_ret
    exact ⟨_, rfl, by simpa using hown, Keeps.mono hk (fun i hi e => by cases e)⟩
  · have t0 : (m : Int) < (n : Int) := by omega
    have h2 : Rd w w.heap.size (.slice A m c) ((xs.take m).map vb) := by
      rw [List.map_take]
      exact h.take (by rw [List.length_map, ← HN.out]; omega)
    obtain ⟨ad, _, rfl, _⟩ := h.at_ (j := 0) (by rw [List.length_map, ← HN.out]; omega)
    go_enter Tryd.func27, Tryd.ntmps27
    go_wp2_with (at_builtin; refine app_any slU8 rfl (.tmp 6) (.tmp 12) rfl rfl (Mine.nil w w.heap.size _) rfl h2 (one_vb _) (by simp; omega) (Nat.le_refl _) ?k)
    case k =>
    intro A m cap w1 hm hown hk hr
    go_wp2
    go_ret
    exact ⟨_, rfl, by simpa using hown, Keeps.mono hk (fun i hi e => by cases e)⟩

theorem ret_int {k : IntKind} {a b : Int} (h : a = b) : Ending.returned (.int k a) = .returned (.int k b) := by rw [h]
/- n modulo most, never below 0 -/
def arnd (n : Int) (m : Nat) : Nat := (if n < 0 then -(n + 1) else n).toNat % m
theorem arnd_lt (n : Int) (m : Nat) (h : 0 < m) : arnd n m < m := Nat.mod_lt _ h
theorem around_any (n : Int) (m : Nat) (w : World) (hn : I64 n) (hm : 0 < m) (hm2 : m ≤ 9223372036854775807) :
    Calls Tryd.prog 29 #[.int .i64 n, .int .i64 (m : Nat)] w fun e w' => e = .returned (.int .i64 (arnd n m : Nat)) ∧ w = w' := by
  obtain ⟨h1, h2⟩ := hn
  by_cases h0 : n < 0
  · have ha : ((-(n + 1)) % (m : Int)) = ((arnd n m : Nat) : Int) := by
      unfold arnd
      rw [if_pos h0, Int.natCast_emod, Int.toNat_of_nonneg (by omega)]
    have hmz : ((m : Int) == 0) = false := by rw [beq_eq_false_iff_ne]; omega
    have HA := Lib.hid ha
    clear ha
    go_enter Tryd.func29, Tryd.ntmps29
    go_wp2_with fail
    go_ret
    exact ⟨ret_int (by rw [← HA.out, ← Int.neg_tmod, Int.tmod_eq_emod_of_nonneg (by omega)]), rfl⟩
  · have ha : (n % (m : Int)) = ((arnd n m : Nat) : Int) := by
      unfold arnd
      rw [if_neg h0, Int.natCast_emod, Int.toNat_of_nonneg (by omega)]
    have hmz : ((m : Int) == 0) = false := by rw [beq_eq_false_iff_ne]; omega
    have HA := Lib.hid ha
    clear ha
    go_enter Tryd.func29, Tryd.ntmps29
    go_wp2_with fail
    go_ret
    exact ⟨by rw [← HA.out]; rfl, rfl⟩
end Go.Proofs.YtgajmhpnilkmiaaDoor
