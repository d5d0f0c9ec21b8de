/- intervalmonref01: the comparisons of slices. The reference: copies of slices, numbers, streams of bits. The reference: streams of bits. -/
import Derived.Test.YtjiiiimhegkklaaDoorBlockDecodesP05
import Derived.Deep.QuietTactic
import Derived.BigQuiet
namespace Go.Proofs.YtjiiiimhegkklaaDoor
open Go.RowKit Pl

theorem take_eq_step {α : Type} {xs ys : List α} {j : Nat} (h : xs.take j = ys.take j) (hx : xs[j]? = ys[j]?) : xs.take (j + 1) = ys.take (j + 1) := by
  rw [List.take_add_one, List.take_add_one, h, hx]
theorem getElem?_take_ne {α : Type} {xs ys : List α} {j : Nat} (h : xs[j]? ≠ ys[j]?) : xs ≠ ys := fun e => h (by rw [e])
theorem eq_of_take {α : Type} {xs ys : List α} {n : Nat} (hx : xs.length ≤ n) (hy : ys.length ≤ n) (h : xs.take n = ys.take n) : xs = ys := by
  rwa [List.take_of_length_le hx, List.take_of_length_le hy] at h

set_option maxHeartbeats 1600000 in
theorem sameBytes_any (v u : Value) (xs ys : List Nat) (w : World) (h : Rd w w.heap.size v (xs.map vb)) (k : Rd w w.heap.size u (ys.map vb)) (hl : xs.length ≤ 1099511627776) (hl' : ys.length ≤ 1099511627776) :
    Calls Tryd.prog 20 #[v, u] w fun e w' => e = .returned (.bool (decide (xs = ys))) ∧ ∃ n, w' = w.drewN n := by
  obtain ⟨A, n, c, rfl, hn, hc⟩ := h.form
  obtain ⟨B, n', d, rfl, hn', hd⟩ := k.form
  rw [List.length_map] at hn hn'
  have hnl : n ≤ 1099511627776 := by omega
  have hnl' : n' ≤ 1099511627776 := by omega
  have HN := Lib.hid hn
  have HN' := Lib.hid hn'
  by_cases hne : n ≠ n'
  · have t0 : ((n : Int) != (n' : Int)) = true := by rw [bne_iff_ne]; omega
    have hD : decide (xs = ys) = false := by
      rw [decide_eq_false_iff_not]
      rintro rfl
      omega
    have HD := Lib.hid hD
    clear hn hn' hne hD
    go_enter Tryd.func20, Tryd.ntmps20
    go_wp2_with fail
    go_ret
    exact ⟨by rw [HD.out]; rfl, 0, rfl⟩
  obtain rfl : n = n' := by omega
  clear hn hn' hne
  have t0 : ((n : Int) != (n : Int)) = false := by simp
  go_enter Tryd.func20, Tryd.ntmps20
  go_wp2_with fail
  go_loopw [5] (fun i wr => ∃ (j m : Nat), j ≤ n ∧ i = .int .i64 j ∧ wr = w.drewN m ∧ xs.take j = ys.take j) (fun i _ => n - (intOf i).toNat)
  case atStart => exact ⟨0, 0, by omega, rfl, rfl, by simp⟩
  case round =>
    obtain ⟨j, m, hj, rfl, rfl, htake⟩ := hrel
    have HTK := Lib.hid htake
    clear htake
    by_cases hlt : j < n
    · have hjx : j < xs.length := by rw [← HN.out]; exact hlt
      have hjy : j < ys.length := by rw [← HN'.out]; exact hlt
      obtain ⟨ad, u1, rfl, hadb, hu, hcell⟩ := h.at_ (j := j) (by rw [List.length_map]; exact hjx)
      obtain ⟨ad2, u2, rfl, hadb2, hu2, hcell2⟩ := k.at_ (j := j) (by rw [List.length_map]; exact hjy)
      obtain rfl : vb xs[j] = u1 := by
        rw [List.getElem?_map, List.getElem?_eq_getElem hjx] at hu
        injection hu
      obtain rfl : vb ys[j] = u2 := by
        rw [List.getElem?_map, List.getElem?_eq_getElem hjy] at hu2
        injection hu2
      unfold vb at hcell hcell2
      clear hu hu2
      by_cases hxy : xs[j] = ys[j]
      · have hstep : xs.take (j + 1) = ys.take (j + 1) := take_eq_step HTK.out (by rw [List.getElem?_eq_getElem hjx, List.getElem?_eq_getElem hjy, hxy])
        have HS := Lib.hid hstep
        rw [← hxy] at hcell2
        clear hstep hxy
        generalize xs[j] = x at *
        clear hjx hjy
        have tx : ((x : Int) != (x : Int)) = false := by simp
        go_wp2_with fail
        go_quiet (fail)
        go_wp2_with fail
        go_roundw
        case rel => exact ⟨j + 1, _, by omega, by go_num, rfl, HS.out⟩
        case measure => simp [intOf]; omega
      · have hD : decide (xs = ys) = false := by
          rw [decide_eq_false_iff_not]
          rintro rfl
          exact hxy rfl
        have HD := Lib.hid hD
        clear hD
        generalize xs[j] = x at *
        generalize ys[j] = y at *
        have tx : ((x : Int) != (y : Int)) = true := by rw [bne_iff_ne]; omega
        clear hxy hjx hjy
        go_wp2_with fail
        go_quiet (fail)
        go_wp2_with fail
        go_ret
        exact ⟨by rw [HD.out]; rfl, _, World.drewN_drewN _ _ _⟩
    · have hD : decide (xs = ys) = true := by
        rw [decide_eq_true_eq]
        refine eq_of_take (n := j) ?_ ?_ HTK.out
        · rw [← HN.out]; omega
        · rw [← HN'.out]; omega
      have HD := Lib.hid hD
      clear hD
      go_wp2_with fail
      go_ret
      exact ⟨by rw [HD.out]; rfl, _, rfl⟩

set_option maxHeartbeats 1600000 in
theorem sameInts_any (v u : Value) (xs ys : List Int) (w : World) (h : Rd w w.heap.size v (xs.map vi)) (k : Rd w w.heap.size u (ys.map vi)) (hl : xs.length ≤ 1099511627776) (hl' : ys.length ≤ 1099511627776) :
    Calls Tryd.prog 29 #[v, u] w fun e w' => e = .returned (.bool (decide (xs = ys))) ∧ ∃ n, w' = w.drewN n := by
  obtain ⟨A, n, c, rfl, hn, hc⟩ := h.form
  obtain ⟨B, n', d, rfl, hn', hd⟩ := k.form
  rw [List.length_map] at hn hn'
  have hnl : n ≤ 1099511627776 := by omega
  have hnl' : n' ≤ 1099511627776 := by omega
  have HN := Lib.hid hn
  have HN' := Lib.hid hn'
  by_cases hne : n ≠ n'
  · have t0 : ((n : Int) != (n' : Int)) = true := by rw [bne_iff_ne]; omega
    have hD : decide (xs = ys) = false := by
      rw [decide_eq_false_iff_not]
      rintro rfl
      omega
    have HD := Lib.hid hD
    clear hn hn' hne hD
    go_enter Tryd.func29, Tryd.ntmps29
    go_wp2_with fail
    go_ret
    exact ⟨by rw [HD.out]; rfl, 0, rfl⟩
  obtain rfl : n = n' := by omega
  clear hn hn' hne
  have t0 : ((n : Int) != (n : Int)) = false := by simp
  go_enter Tryd.func29, Tryd.ntmps29
  go_wp2_with fail
  go_loopw [5] (fun i wr => ∃ (j m : Nat), j ≤ n ∧ i = .int .i64 j ∧ wr = w.drewN m ∧ xs.take j = ys.take j) (fun i _ => n - (intOf i).toNat)
  case atStart => exact ⟨0, 0, by omega, rfl, rfl, by simp⟩
  case round =>
    obtain ⟨j, m, hj, rfl, rfl, htake⟩ := hrel
    have HTK := Lib.hid htake
    clear htake
    by_cases hlt : j < n
    · have hjx : j < xs.length := by rw [← HN.out]; exact hlt
      have hjy : j < ys.length := by rw [← HN'.out]; exact hlt
      obtain ⟨ad, u1, rfl, hadb, hu, hcell⟩ := h.at_ (j := j) (by rw [List.length_map]; exact hjx)
      obtain ⟨ad2, u2, rfl, hadb2, hu2, hcell2⟩ := k.at_ (j := j) (by rw [List.length_map]; exact hjy)
      obtain rfl : vi xs[j] = u1 := by
        rw [List.getElem?_map, List.getElem?_eq_getElem hjx] at hu
        injection hu
      obtain rfl : vi ys[j] = u2 := by
        rw [List.getElem?_map, List.getElem?_eq_getElem hjy] at hu2
        injection hu2
      unfold vi at hcell hcell2
      clear hu hu2
      by_cases hxy : xs[j] = ys[j]
      · have hstep : xs.take (j + 1) = ys.take (j + 1) := take_eq_step HTK.out (by rw [List.getElem?_eq_getElem hjx, List.getElem?_eq_getElem hjy, hxy])
        have HS := Lib.hid hstep
        rw [← hxy] at hcell2
        clear hstep hxy
        generalize xs[j] = x at *
        clear hjx hjy
        have tx : (x != x) = false := by simp
        go_wp2_with fail
        go_quiet (fail)
        go_wp2_with fail
        go_roundw
        case rel => exact ⟨j + 1, _, by omega, by go_num, rfl, HS.out⟩
        case measure => simp [intOf]; omega
      · have hD : decide (xs = ys) = false := by
          rw [decide_eq_false_iff_not]
          rintro rfl
          exact hxy rfl
        have HD := Lib.hid hD
        clear hD
        generalize xs[j] = x at *
        generalize ys[j] = y at *
        have tx : (x != y) = true := by rw [bne_iff_ne]; exact hxy
        clear hxy hjx hjy
        go_wp2_with fail
        go_quiet (fail)
        go_wp2_with fail
        go_ret
        exact ⟨by rw [HD.out]; rfl, _, World.drewN_drewN _ _ _⟩
    · have hD : decide (xs = ys) = true := by
        rw [decide_eq_true_eq]
        refine eq_of_take (n := j) ?_ ?_ HTK.out
        · rw [← HN.out]; omega
        · rw [← HN'.out]; omega
      have HD := Lib.hid hD
      clear hD
      go_wp2_with fail
      go_ret
      exact ⟨by rw [HD.out]; rfl, _, rfl⟩
end Go.Proofs.YtjiiiimhegkklaaDoor
namespace Go.Proofs.YtjiiiimhegkklaaDoor
open Go.RowKit Pl

def vbo (b : Bool) : Value := .bool b
theorem slInt : SlT Tryd.prog 22 3 8 (.int .i64 0) := ⟨Tryd.underlying22, by kernel_rfl, rfl, by decide⟩
theorem slBool : SlT Tryd.prog 108 4 1 (.bool false) := ⟨Tryd.underlying108, by kernel_rfl, rfl, by decide⟩
theorem one_vi (bs : List Int) : ∀ u ∈ bs.map vi, u.oneCell' = true := by
  intro u hu
  obtain ⟨x, _, rfl⟩ := List.mem_map.1 hu
  rfl
theorem one_vbo (bs : List Bool) : ∀ u ∈ bs.map vbo, u.oneCell' = true := by
  intro u hu
  obtain ⟨x, _, rfl⟩ := List.mem_map.1 hu
  rfl
theorem Rd.take {w : World} {B : Nat} {A : Option Addr} {n c : Nat} {xs : List Value} (h : Rd w B (.slice A n c) xs) {m : Nat} (hm : m ≤ xs.length) : Rd w B (.slice A m c) (xs.take m) := by
  obtain ⟨A', c', hv, hc, hx⟩ := h
  injection hv with hA _ hcc
  subst hA hcc
  have hl : (xs.take m).length = m := by rw [List.length_take]; omega
  refine ⟨A, c, by rw [hl], by omega, fun h0 => ?_⟩
  obtain ⟨ad, rfl, hb, hcell⟩ := hx (by omega)
  refine ⟨ad, rfl, hb, fun j u hu => hcell j u ?_⟩
  rw [List.getElem?_take] at hu
  split at hu
  · exact hu
  · cases hu

set_option maxHeartbeats 1600000 in
theorem few_any (v : Value) (xs : List Nat) (m : Nat) (w : World) (h : Rd w w.heap.size v (xs.map vb)) (hm : m ≤ 1000000000) :
    Calls Tryd.prog 25 #[v, .int .i64 (m : Nat)] w fun e w' => ∃ v', e = .returned v' ∧ Mine w' w.heap.size 5 v' ((xs.take m).map vb) ∧ Grew w w' := by
  obtain ⟨A, n, c, rfl, hn, hc⟩ := h.form
  rw [List.length_map] at hn
  have HN := Lib.hid hn
  clear hn
  by_cases hnm : n ≤ m
  · have t0 : ¬ ((m : Int) < (n : Int)) := by omega
    have h2 : Rd w w.heap.size (.slice A n c) ((xs.take m).map vb) := by
      rw [List.take_of_length_le (by rw [← HN.out]; exact hnm)]; exact h
    go_enter Tryd.func25, Tryd.ntmps25
    go_wp2_with (at_builtin; refine app_any slU8 rfl (.tmp 6) (.tmp 12) rfl rfl (Mine.nil w w.heap.size _) rfl h2 (one_vb _) (by simp; omega) (Nat.le_refl _) ?k)
    case k =>
    intro A m cap w1 hm hown hk hr
    go_wp2
    go_ret
    exact ⟨_, rfl, by simpa using hown, Keeps.mono hk (fun i hi e => by cases e)⟩
  · have t0 : (m : Int) < (n : Int) := by omega
    have h2 : Rd w w.heap.size (.slice A m c) ((xs.take m).map vb) := by
      rw [List.map_take]
      exact h.take (by rw [List.length_map, ← HN.out]; omega)
    obtain ⟨ad, _, rfl, _⟩ := h.at_ (j := 0) (by rw [List.length_map, ← HN.out]; omega)
    go_enter Tryd.func25, Tryd.ntmps25
    go_wp2_with (at_builtin; refine app_any slU8 rfl (.tmp 6) (.tmp 12) rfl rfl (Mine.nil w w.heap.size _) rfl h2 (one_vb _) (by simp; omega) (Nat.le_refl _) ?k)
    case k =>
    intro A m cap w1 hm hown hk hr
    go_wp2
    go_ret
    exact ⟨_, rfl, by simpa using hown, Keeps.mono hk (fun i hi e => by cases e)⟩

set_option maxHeartbeats 1600000 in
theorem firstInts_any (v : Value) (xs : List Int) (m : Nat) (w : World) (h : Rd w w.heap.size v (xs.map vi)) (hm : m ≤ 1000000000) :
    Calls Tryd.prog 22 #[v, .int .i64 (m : Nat)] w fun e w' => ∃ v', e = .returned v' ∧ Mine w' w.heap.size 3 v' ((xs.take m).map vi) ∧ Grew w w' := by
  obtain ⟨A, n, c, rfl, hn, hc⟩ := h.form
  rw [List.length_map] at hn
  have HN := Lib.hid hn
  clear hn
  by_cases hnm : n ≤ m
  · have t0 : ¬ ((m : Int) < (n : Int)) := by omega
    have h2 : Rd w w.heap.size (.slice A n c) ((xs.take m).map vi) := by
      rw [List.take_of_length_le (by rw [← HN.out]; exact hnm)]; exact h
    go_enter Tryd.func22, Tryd.ntmps22
    go_wp2_with (at_builtin; refine app_any slInt rfl (.tmp 6) (.tmp 12) rfl rfl (Mine.nil w w.heap.size _) rfl h2 (one_vi _) (by simp; omega) (Nat.le_refl _) ?k)
    case k =>
    intro A m cap w1 hm hown hk hr
    go_wp2
    go_ret
    exact ⟨_, rfl, by simpa using hown, Keeps.mono hk (fun i hi e => by cases e)⟩
  · have t0 : (m : Int) < (n : Int) := by omega
    have h2 : Rd w w.heap.size (.slice A m c) ((xs.take m).map vi) := by
      rw [List.map_take]
      exact h.take (by rw [List.length_map, ← HN.out]; omega)
    obtain ⟨ad, _, rfl, _⟩ := h.at_ (j := 0) (by rw [List.length_map, ← HN.out]; omega)
    go_enter Tryd.func22, Tryd.ntmps22
    go_wp2_with (at_builtin; refine app_any slInt rfl (.tmp 6) (.tmp 12) rfl rfl (Mine.nil w w.heap.size _) rfl h2 (one_vi _) (by simp; omega) (Nat.le_refl _) ?k)
    case k =>
    intro A m cap w1 hm hown hk hr
    go_wp2
    go_ret
    exact ⟨_, rfl, by simpa using hown, Keeps.mono hk (fun i hi e => by cases e)⟩

theorem ret_int {k : IntKind} {a b : Int} (h : a = b) : Ending.returned (.int k a) = .returned (.int k b) := by rw [h]
/- n modulo most, never below 0 -/
def arnd (n : Int) (m : Nat) : Nat := (if n < 0 then -(n + 1) else n).toNat % m
theorem arnd_lt (n : Int) (m : Nat) (h : 0 < m) : arnd n m < m := Nat.mod_lt _ h
theorem around_any (n : Int) (m : Nat) (w : World) (hn : I64 n) (hm : 0 < m) (hm2 : m ≤ 9223372036854775807) :
    Calls Tryd.prog 33 #[.int .i64 n, .int .i64 (m : Nat)] w fun e w' => e = .returned (.int .i64 (arnd n m : Nat)) ∧ w = w' := by
  obtain ⟨h1, h2⟩ := hn
  by_cases h0 : n < 0
  · have ha : ((-(n + 1)) % (m : Int)) = ((arnd n m : Nat) : Int) := by
      unfold arnd
      rw [if_pos h0, Int.natCast_emod, Int.toNat_of_nonneg (by omega)]
    have hmz : ((m : Int) == 0) = false := by rw [beq_eq_false_iff_ne]; omega
    have HA := Lib.hid ha
    clear ha
    go_enter Tryd.func33, Tryd.ntmps33
    go_wp2_with fail
    go_ret
    exact ⟨ret_int (by rw [← HA.out, ← Int.neg_tmod, Int.tmod_eq_emod_of_nonneg (by omega)]), rfl⟩
  · have ha : (n % (m : Int)) = ((arnd n m : Nat) : Int) := by
      unfold arnd
      rw [if_neg h0, Int.natCast_emod, Int.toNat_of_nonneg (by omega)]
    have hmz : ((m : Int) == 0) = false := by rw [beq_eq_false_iff_ne]; omega
    have HA := Lib.hid ha
    clear ha
    go_enter Tryd.func33, Tryd.ntmps33
    go_wp2_with fail
    go_ret
    exact ⟨by rw [← HA.out]; rfl, rfl⟩
theorem zigzag_any (n : Int) (w : World) (hn : I64 n) :
    Calls Tryd.prog 104 #[.int .i64 n] w fun e w' => e = .returned (.int .u64 (zig n : Nat)) ∧ w = w' := by
  obtain ⟨h1, h2⟩ := hn
  by_cases h0 : n < 0
  · have hz : ((zig n : Nat) : Int) = -2 * n - 1 := by unfold zig; rw [if_neg (by omega)]; omega
    have HZ := Lib.hid hz
    clear hz
    go_enter Tryd.func104, Tryd.ntmps104
    go_wp2_with fail
    go_ret
    exact ⟨by rw [HZ.out]; go_num, rfl⟩
  · have hz : ((zig n : Nat) : Int) = 2 * n := by unfold zig; rw [if_pos (by omega)]; omega
    have HZ := Lib.hid hz
    clear hz
    go_enter Tryd.func104, Tryd.ntmps104
    go_wp2_with fail
    go_ret
    exact ⟨by rw [HZ.out]; go_num, rfl⟩
theorem count_any (k : Nat) (hk : k ≤ 64) (w : World) :
    Calls Tryd.prog 127 #[.int .i64 (k : Nat)] w fun e w' => e = .returned (.int .i64 (k : Nat)) ∧ w = w' := by
  have h1 : ¬ ((k : Int) < 0) := by omega
  have h2 : ¬ ((64 : Int) < (k : Int)) := by omega
  rcases Nat.eq_zero_or_pos k with rfl | h3
  · go_enter Tryd.func127, Tryd.ntmps127
    go_wp2
    go_ret
    exact ⟨rfl, rfl⟩
  · go_enter Tryd.func127, Tryd.ntmps127
    go_wp2
    go_ret
    exact ⟨rfl, rfl⟩
end Go.Proofs.YtjiiiimhegkklaaDoor
namespace Go.Proofs.YtjiiiimhegkklaaDoor
open Go.RowKit Pl

/- what a fresh row may become -/
def Fresh (w : World) (v : Value) : Prop := ∀ k, v.ownBlock = some k → w.heap.size ≤ k
theorem Mine.fresh {w w0 : World} {e : TypeId} {v : Value} {xs : List Value} (h : Mine w w0.heap.size e v xs) : ∀ k, v.ownBlock = some k → w0.heap.size ≤ k := fun k hk => (h.lt k hk).1
/- an append on a row of the call's own keeps what was there -/
theorem Grew.app {w0 w w' : World} {e : TypeId} {v : Value} {xs : List Value} (h : Grew w0 w) (hm : Mine w w0.heap.size e v xs) (hk : Keeps (fun i => v.ownBlock = some i) w w') : Grew w0 w' :=
  Keeps.then_ h hk fun i hi e => by have := (hm.lt i e).1; omega
theorem Grew.alloc {w0 w : World} (h : Grew w0 w) (o : Obj) : Grew w0 (w.alloc o) := Keeps.alloc h o
theorem Grew.drew {w0 w : World} (h : Grew w0 w) : Grew w0 w.drew := Keeps.drew h
theorem Grew.drewN {w0 w : World} (h : Grew w0 w) (n : Nat) : Grew w0 (w.drewN n) := Keeps.drewN h n
theorem Mine.slice {w : World} {base : Nat} {e : TypeId} {v : Value} {xs : List Value} (h : Mine w base e v xs) : ∃ A n c, v = .slice A n c ∧ n = xs.length := by
  rcases h.form with ⟨rfl, rfl⟩ | ⟨g, cap, cur, rfl, _⟩
  · exact ⟨_, _, _, rfl, rfl⟩
  · exact ⟨_, _, _, rfl, rfl⟩

set_option maxHeartbeats 1600000 in
set_option maxRecDepth 100000 in
theorem runary_any (n : Nat) (w : World) (hn : n ≤ 64) :
    Calls Tryd.prog 105 #[.int .i64 (n : Nat)] w fun e w' => ∃ v', e = .returned v' ∧ Mine w' w.heap.size 4 v' ((un n).map vbo) ∧ Grew w w' := by
  go_enter Tryd.func105, Tryd.ntmps105
  go_wp2_with fail
  go_loopw [3, 4] (fun a i wr => ∃ (j m : Nat) (A : Option Addr) (c : Nat), j ≤ n ∧ i = .int .i64 j ∧ a = .slice A m c ∧ Mine wr w.heap.size 4 (.slice A m c) ((List.replicate j true).map vbo) ∧ Grew w wr) (fun _ i _ => n - (intOf i).toNat)
  case atStart => exact ⟨0, 0, none, 0, by omega, rfl, rfl, Mine.nil _ _ _, Grew.refl _⟩
  case round =>
    obtain ⟨j, m, A, c, hj, rfl, rfl, hM, hG⟩ := hrel
    have hsz := hG.size
    by_cases hlt : j < n
    · have t1 : decide ((j : Int) < (n : Int)) = true := by simp; omega
      have t2 : decide ((j : Int) < 65536) = true := by rw [decide_eq_true_eq]; omega
      go_wp2_with (at_builtin; refine app_one slBool rfl (.tmp 14) (.tmp 15) rfl rfl (hM.alloc _) wr.heap.size 1 (.bool true) rfl (Nat.le_refl _) (by simp) (by simp) rfl (by simp; omega) (by simp; omega) ?k)
      case k =>
      intro r cap w1 hM1 hk1 hr hbr hlr
      have hG1 : Grew w w1 := (hG.alloc _).app (hM.alloc _) hk1
      have hM2 : Mine w1 w.heap.size 4 (.slice (some ⟨r, 0, none⟩) (j + 1) cap) ((List.replicate (j + 1) true).map vbo) := by
        rw [List.replicate_succ']; simpa [vbo] using hM1
      clear hM1 hk1 hM
      go_wp2_with fail
      go_roundw
      case rel => exact ⟨j + 1, _, _, _, by omega, by go_num, rfl, hM2, hG1⟩
      case measure => simp [intOf]; omega
    · obtain rfl : j = n := by omega
      have t1 : decide ((j : Int) < (j : Int)) = false := by simp
      go_wp2_with (at_builtin; refine app_one slBool rfl (.tmp 17) (.tmp 18) rfl rfl (hM.alloc _) wr.heap.size 1 (.bool false) rfl (Nat.le_refl _) (by simp) (by simp) rfl (by simp; omega) (by simp; omega) ?k)
      case k =>
      intro r cap w1 hM1 hk1 hr hbr hlr
      have hG1 : Grew w w1 := (hG.alloc _).app (hM.alloc _) hk1
      go_wp2_with fail
      go_ret
      exact ⟨_, rfl, by simpa [un, vbo] using hM1, hG1⟩

set_option maxHeartbeats 1600000 in
set_option maxRecDepth 100000 in
theorem rbits_any (z k : Nat) (w : World) (_ : z < 18446744073709551616) (hk : k ≤ 64) :
    Calls Tryd.prog 106 #[.int .u64 (z : Nat), .int .i64 (k : Nat)] w fun e w' => ∃ v', e = .returned v' ∧ Mine w' w.heap.size 4 v' ((bin z k).map vbo) ∧ Grew w w' := by
  have HC := Lib.hid (count_any k hk w)
  go_enter Tryd.func106, Tryd.ntmps106
  go_wp2_with (go_at_call 127; refine HC.out.mono ?_; rintro e w' ⟨rfl, rfl⟩)
  go_loopw [5, 6] (fun a i wr => ∃ (j m : Nat) (A : Option Addr) (c : Nat), j ≤ k ∧ i = .int .i64 ((k : Int) - 1 - j) ∧ a = .slice A m c ∧ Mine wr w.heap.size 4 (.slice A m c) (((bin z k).take j).map vbo) ∧ Grew w wr) (fun _ i _ => (intOf i + 1).toNat)
  case atStart => exact ⟨0, 0, none, 0, by omega, by simp, rfl, Mine.nil _ _ _, Grew.refl _⟩
  case round =>
    obtain ⟨j, m, A, c, hj, rfl, rfl, hM, hG⟩ := hrel
    have hsz := hG.size
    have hbl : (bin z k).length = k := bin_length z k
    have HBL := Lib.hid hbl
    clear hbl
    by_cases hlt : j < k
    · have hsn : (bin z k).take (j + 1) = (bin z k).take j ++ [z.testBit (k - 1 - j)] := by
        rw [List.take_add_one]; simp [bin, hlt]
      have hbit : (((z : Int) / 2 ^ (k - 1 - j)).tmod 2 == 1) = z.testBit (k - 1 - j) := by
        have e : ((z : Int) / 2 ^ (k - 1 - j)) = ((z / 2 ^ (k - 1 - j) : Nat) : Int) := by rw [Int.natCast_ediv, Int.natCast_pow]; rfl
        rw [e, Nat.testBit_eq_decide_div_mod_eq]
        have : z / 2 ^ (k - 1 - j) % 2 = 0 ∨ z / 2 ^ (k - 1 - j) % 2 = 1 := by omega
        rw [Int.tmod_eq_emod_of_nonneg (Int.natCast_nonneg _)]
        generalize z / 2 ^ (k - 1 - j) = q at *
        rcases this with h | h
        · rw [h]
          have : (q : Int) % 2 = 0 := by omega
          rw [this]; rfl
        · rw [h]
          have : (q : Int) % 2 = 1 := by omega
          rw [this]; rfl
      have HS := Lib.hid hsn
      have HB := Lib.hid hbit
      clear hsn hbit
      have hml : (((bin z k).take j).map vbo).length < 1099511627776 := by
        rw [List.length_map, List.length_take, HBL.out]; omega
      go_wp2_with (at_builtin; refine app_one slBool rfl (.tmp 14) (.tmp 21) rfl rfl (hM.alloc _) wr.heap.size 1 (.bool (((z : Int) / 2 ^ (k - 1 - j)).tmod 2 == 1)) rfl (Nat.le_refl _) (by simp) (by simp) rfl hml (by simp; omega) ?k)
      case k =>
      intro r cap w1 hM1 hk1 hr hbr hlr
      have hG1 : Grew w w1 := (hG.alloc _).app (hM.alloc _) hk1
      have hM2 : ∀ q, Mine w1 w.heap.size 4 (.slice (some ⟨r, 0, none⟩) q cap) (((bin z k).take j).map vbo ++ [.bool (((z : Int) / 2 ^ (k - 1 - j)).tmod 2 == 1)]) → Mine w1 w.heap.size 4 (.slice (some ⟨r, 0, none⟩) q cap) (((bin z k).take (j + 1)).map vbo) := by
        intro q hq
        rw [HS.out, List.map_append]
        rw [HB.out] at hq
        exact hq
      have HM2 := Lib.hid (hM2 _ (by simpa using hM1))
      clear hM1 hM2 hk1 hM hml
      go_wp2_with fail
      go_roundw
      case rel => exact ⟨j + 1, _, _, _, by omega, by go_num, rfl, HM2.out, hG1⟩
      case measure => simp [intOf]; omega
    · go_wp2_with fail
      go_ret
      exact ⟨_, rfl, by rw [List.take_of_length_le (by rw [HBL.out]; omega)] at hM; exact hM, hG⟩
end Go.Proofs.YtjiiiimhegkklaaDoor
