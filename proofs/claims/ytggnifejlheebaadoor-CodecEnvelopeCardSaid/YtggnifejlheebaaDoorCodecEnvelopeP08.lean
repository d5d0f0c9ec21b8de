/- intervalmonref01: the comparisons of slices. The reference: copies of slices, numbers, streams of bits. The reference: streams of bits. The reference: Pack. The reference: Code. The reference: Second, Ints, Unpack. -/
import Derived.Test.YtggnifejlheebaaDoorCodecEnvelopeP07
import Derived.Deep.QuietTactic
import Derived.BigQuiet
import Derived.Deep.RegionHeld3
namespace Go.Proofs.YtggnifejlheebaaDoor
open Go.RowKit Pl

theorem take_eq_step {α : Type} {xs ys : List α} {j : Nat} (h : xs.take j = ys.take j) (hx : xs[j]? = ys[j]?) : xs.take (j + 1) = ys.take (j + 1) := by
  rw [List.take_add_one, List.take_add_one, h, hx]
theorem getElem?_take_ne {α : Type} {xs ys : List α} {j : Nat} (h : xs[j]? ≠ ys[j]?) : xs ≠ ys := fun e => h (by rw [e])
theorem eq_of_take {α : Type} {xs ys : List α} {n : Nat} (hx : xs.length ≤ n) (hy : ys.length ≤ n) (h : xs.take n = ys.take n) : xs = ys := by
  rwa [List.take_of_length_le hx, List.take_of_length_le hy] at h

set_option maxHeartbeats 1600000 in
theorem sameBytes_any (v u : Value) (xs ys : List Nat) (w : World) (h : Rd w w.heap.size v (xs.map vb)) (k : Rd w w.heap.size u (ys.map vb)) (hl : xs.length ≤ 1099511627776) (hl' : ys.length ≤ 1099511627776) :
    Calls Tryd.prog 32 #[v, u] w fun e w' => e = .returned (.bool (decide (xs = ys))) ∧ ∃ n, w' = w.drewN n := by
  obtain ⟨A, n, c, rfl, hn, hc⟩ := h.form
  obtain ⟨B, n', d, rfl, hn', hd⟩ := k.form
  rw [List.length_map] at hn hn'
  have hnl : n ≤ 1099511627776 := by omega
  have hnl' : n' ≤ 1099511627776 := by omega
  have HN := Lib.hid hn
  have HN' := Lib.hid hn'
  by_cases hne : n ≠ n'
  · have t0 : ((n : Int) != (n' : Int)) = true := by rw [bne_iff_ne]; omega
    have hD : decide (xs = ys) = false := by
      rw [decide_eq_false_iff_not]
      rintro rfl
      omega
    have HD := Lib.hid hD
    clear hn hn' hne hD
    go_enter Tryd.func32, Tryd.ntmps32
    go_wp2_with fail
    go_ret
    exact ⟨by rw [HD.out]; rfl, 0, rfl⟩
  obtain rfl : n = n' := by omega
  clear hn hn' hne
  have t0 : ((n : Int) != (n : Int)) = false := by simp
  go_enter Tryd.func32, Tryd.ntmps32
  go_wp2_with fail
  go_loopw [5] (fun i wr => ∃ (j m : Nat), j ≤ n ∧ i = .int .i64 j ∧ wr = w.drewN m ∧ xs.take j = ys.take j) (fun i _ => n - (intOf i).toNat)
  case atStart => exact ⟨0, 0, by omega, rfl, rfl, by simp⟩
  case round =>
    obtain ⟨j, m, hj, rfl, rfl, htake⟩ := hrel
    have HTK := Lib.hid htake
    clear htake
    by_cases hlt : j < n
    · have hjx : j < xs.length := by rw [← HN.out]; exact hlt
      have hjy : j < ys.length := by rw [← HN'.out]; exact hlt
      obtain ⟨ad, u1, rfl, hadb, hu, hcell⟩ := h.at_ (j := j) (by rw [List.length_map]; exact hjx)
      obtain ⟨ad2, u2, rfl, hadb2, hu2, hcell2⟩ := k.at_ (j := j) (by rw [List.length_map]; exact hjy)
      obtain rfl : vb xs[j] = u1 := by
        rw [List.getElem?_map, List.getElem?_eq_getElem hjx] at hu
        injection hu
      obtain rfl : vb ys[j] = u2 := by
        rw [List.getElem?_map, List.getElem?_eq_getElem hjy] at hu2
        injection hu2
      unfold vb at hcell hcell2
      clear hu hu2
      by_cases hxy : xs[j] = ys[j]
      · have hstep : xs.take (j + 1) = ys.take (j + 1) := take_eq_step HTK.out (by rw [List.getElem?_eq_getElem hjx, List.getElem?_eq_getElem hjy, hxy])
        have HS := Lib.hid hstep
        rw [← hxy] at hcell2
        clear hstep hxy
        generalize xs[j] = x at *
        clear hjx hjy
        have tx : ((x : Int) != (x : Int)) = false := by simp
        go_wp2_with fail
        go_quiet (fail)
        go_wp2_with fail
        go_roundw
        case rel => exact ⟨j + 1, _, by omega, by go_num, rfl, HS.out⟩
        case measure => simp [intOf]; omega
      · have hD : decide (xs = ys) = false := by
          rw [decide_eq_false_iff_not]
          rintro rfl
          exact hxy rfl
        have HD := Lib.hid hD
        clear hD
        generalize xs[j] = x at *
        generalize ys[j] = y at *
        have tx : ((x : Int) != (y : Int)) = true := by rw [bne_iff_ne]; omega
        clear hxy hjx hjy
        go_wp2_with fail
        go_quiet (fail)
        go_wp2_with fail
        go_ret
        exact ⟨by rw [HD.out]; rfl, _, World.drewN_drewN _ _ _⟩
    · have hD : decide (xs = ys) = true := by
        rw [decide_eq_true_eq]
        refine eq_of_take (n := j) ?_ ?_ HTK.out
        · rw [← HN.out]; omega
        · rw [← HN'.out]; omega
      have HD := Lib.hid hD
      clear hD
      go_wp2_with fail
      go_ret
      exact ⟨by rw [HD.out]; rfl, _, rfl⟩

set_option maxHeartbeats 1600000 in
theorem sameInts_any (v u : Value) (xs ys : List Int) (w : World) (h : Rd w w.heap.size v (xs.map vi)) (k : Rd w w.heap.size u (ys.map vi)) (hl : xs.length ≤ 1099511627776) (hl' : ys.length ≤ 1099511627776) :
    Calls Tryd.prog 34 #[v, u] w fun e w' => e = .returned (.bool (decide (xs = ys))) ∧ ∃ n, w' = w.drewN n := by
  obtain ⟨A, n, c, rfl, hn, hc⟩ := h.form
  obtain ⟨B, n', d, rfl, hn', hd⟩ := k.form
  rw [List.length_map] at hn hn'
  have hnl : n ≤ 1099511627776 := by omega
  have hnl' : n' ≤ 1099511627776 := by omega
  have HN := Lib.hid hn
  have HN' := Lib.hid hn'
  by_cases hne : n ≠ n'
  · have t0 : ((n : Int) != (n' : Int)) = true := by rw [bne_iff_ne]; omega
    have hD : decide (xs = ys) = false := by
      rw [decide_eq_false_iff_not]
      rintro rfl
      omega
    have HD := Lib.hid hD
    clear hn hn' hne hD
    go_enter Tryd.func34, Tryd.ntmps34
    go_wp2_with fail
    go_ret
    exact ⟨by rw [HD.out]; rfl, 0, rfl⟩
  obtain rfl : n = n' := by omega
  clear hn hn' hne
  have t0 : ((n : Int) != (n : Int)) = false := by simp
  go_enter Tryd.func34, Tryd.ntmps34
  go_wp2_with fail
  go_loopw [5] (fun i wr => ∃ (j m : Nat), j ≤ n ∧ i = .int .i64 j ∧ wr = w.drewN m ∧ xs.take j = ys.take j) (fun i _ => n - (intOf i).toNat)
  case atStart => exact ⟨0, 0, by omega, rfl, rfl, by simp⟩
  case round =>
    obtain ⟨j, m, hj, rfl, rfl, htake⟩ := hrel
    have HTK := Lib.hid htake
    clear htake
    by_cases hlt : j < n
    · have hjx : j < xs.length := by rw [← HN.out]; exact hlt
      have hjy : j < ys.length := by rw [← HN'.out]; exact hlt
      obtain ⟨ad, u1, rfl, hadb, hu, hcell⟩ := h.at_ (j := j) (by rw [List.length_map]; exact hjx)
      obtain ⟨ad2, u2, rfl, hadb2, hu2, hcell2⟩ := k.at_ (j := j) (by rw [List.length_map]; exact hjy)
      obtain rfl : vi xs[j] = u1 := by
        rw [List.getElem?_map, List.getElem?_eq_getElem hjx] at hu
        injection hu
      obtain rfl : vi ys[j] = u2 := by
        rw [List.getElem?_map, List.getElem?_eq_getElem hjy] at hu2
        injection hu2
      unfold vi at hcell hcell2
      clear hu hu2
      by_cases hxy : xs[j] = ys[j]
      · have hstep : xs.take (j + 1) = ys.take (j + 1) := take_eq_step HTK.out (by rw [List.getElem?_eq_getElem hjx, List.getElem?_eq_getElem hjy, hxy])
        have HS := Lib.hid hstep
        rw [← hxy] at hcell2
        clear hstep hxy
        generalize xs[j] = x at *
        clear hjx hjy
        have tx : (x != x) = false := by simp
        go_wp2_with fail
        go_quiet (fail)
        go_wp2_with fail
        go_roundw
        case rel => exact ⟨j + 1, _, by omega, by go_num, rfl, HS.out⟩
        case measure => simp [intOf]; omega
      · have hD : decide (xs = ys) = false := by
          rw [decide_eq_false_iff_not]
          rintro rfl
          exact hxy rfl
        have HD := Lib.hid hD
        clear hD
        generalize xs[j] = x at *
        generalize ys[j] = y at *
        have tx : (x != y) = true := by rw [bne_iff_ne]; exact hxy
        clear hxy hjx hjy
        go_wp2_with fail
        go_quiet (fail)
        go_wp2_with fail
        go_ret
        exact ⟨by rw [HD.out]; rfl, _, World.drewN_drewN _ _ _⟩
    · have hD : decide (xs = ys) = true := by
        rw [decide_eq_true_eq]
        refine eq_of_take (n := j) ?_ ?_ HTK.out
        · rw [← HN.out]; omega
        · rw [← HN'.out]; omega
      have HD := Lib.hid hD
      clear hD
      go_wp2_with fail
      go_ret
      exact ⟨by rw [HD.out]; rfl, _, rfl⟩
end Go.Proofs.YtggnifejlheebaaDoor
namespace Go.Proofs.YtggnifejlheebaaDoor
open Go.RowKit Pl

def vbo (b : Bool) : Value := .bool b
theorem slInt : SlT Tryd.prog 22 3 8 (.int .i64 0) := ⟨Tryd.underlying22, by kernel_rfl, rfl, by decide⟩
theorem one_vi (bs : List Int) : ∀ u ∈ bs.map vi, u.oneCell' = true := by
  intro u hu
  obtain ⟨x, _, rfl⟩ := List.mem_map.1 hu
  rfl
theorem one_vbo (bs : List Bool) : ∀ u ∈ bs.map vbo, u.oneCell' = true := by
  intro u hu
  obtain ⟨x, _, rfl⟩ := List.mem_map.1 hu
  rfl
theorem Rd.take {w : World} {B : Nat} {A : Option Addr} {n c : Nat} {xs : List Value} (h : Rd w B (.slice A n c) xs) {m : Nat} (hm : m ≤ xs.length) : Rd w B (.slice A m c) (xs.take m) := by
  obtain ⟨A', c', hv, hc, hx⟩ := h
  injection hv with hA _ hcc
  subst hA hcc
  have hl : (xs.take m).length = m := by rw [List.length_take]; omega
  refine ⟨A, c, by rw [hl], by omega, fun h0 => ?_⟩
  obtain ⟨ad, rfl, hb, hcell⟩ := hx (by omega)
  refine ⟨ad, rfl, hb, fun j u hu => hcell j u ?_⟩
  rw [List.getElem?_take] at hu
  split at hu
  · exact hu
  · cases hu

theorem ret_int {k : IntKind} {a b : Int} (h : a = b) : Ending.returned (.int k a) = .returned (.int k b) := by rw [h]
/- n modulo most, never below 0 -/
def arnd (n : Int) (m : Nat) : Nat := (if n < 0 then -(n + 1) else n).toNat % m
theorem arnd_lt (n : Int) (m : Nat) (h : 0 < m) : arnd n m < m := Nat.mod_lt _ h
theorem around_any (n : Int) (m : Nat) (w : World) (hn : I64 n) (hm : 0 < m) (hm2 : m ≤ 9223372036854775807) :
    Calls Tryd.prog 37 #[.int .i64 n, .int .i64 (m : Nat)] w fun e w' => e = .returned (.int .i64 (arnd n m : Nat)) ∧ w = w' := by
  obtain ⟨h1, h2⟩ := hn
  by_cases h0 : n < 0
  · have ha : ((-(n + 1)) % (m : Int)) = ((arnd n m : Nat) : Int) := by
      unfold arnd
      rw [if_pos h0, Int.natCast_emod, Int.toNat_of_nonneg (by omega)]
    have hmz : ((m : Int) == 0) = false := by rw [beq_eq_false_iff_ne]; omega
    have HA := Lib.hid ha
    clear ha
    go_enter Tryd.func37, Tryd.ntmps37
    go_wp2_with fail
    go_ret
    exact ⟨ret_int (by rw [← HA.out, ← Int.neg_tmod, Int.tmod_eq_emod_of_nonneg (by omega)]), rfl⟩
  · have ha : (n % (m : Int)) = ((arnd n m : Nat) : Int) := by
      unfold arnd
      rw [if_neg h0, Int.natCast_emod, Int.toNat_of_nonneg (by omega)]
    have hmz : ((m : Int) == 0) = false := by rw [beq_eq_false_iff_ne]; omega
    have HA := Lib.hid ha
    clear ha
    go_enter Tryd.func37, Tryd.ntmps37
    go_wp2_with fail
    go_ret
    exact ⟨by rw [← HA.out]; rfl, rfl⟩
end Go.Proofs.YtggnifejlheebaaDoor
namespace Go.Proofs.YtggnifejlheebaaDoor
open Go.RowKit Pl

/- what a fresh row may become -/
def Fresh (w : World) (v : Value) : Prop := ∀ k, v.ownBlock = some k → w.heap.size ≤ k
theorem Mine.fresh {w w0 : World} {e : TypeId} {v : Value} {xs : List Value} (h : Mine w w0.heap.size e v xs) : ∀ k, v.ownBlock = some k → w0.heap.size ≤ k := fun k hk => (h.lt k hk).1
/- an append on a row of the call's own keeps what was there -/
theorem Grew.app {w0 w w' : World} {e : TypeId} {v : Value} {xs : List Value} (h : Grew w0 w) (hm : Mine w w0.heap.size e v xs) (hk : Keeps (fun i => v.ownBlock = some i) w w') : Grew w0 w' :=
  Keeps.then_ h hk fun i hi e => by have := (hm.lt i e).1; omega
theorem Grew.alloc {w0 w : World} (h : Grew w0 w) (o : Obj) : Grew w0 (w.alloc o) := Keeps.alloc h o
theorem Grew.drew {w0 w : World} (h : Grew w0 w) : Grew w0 w.drew := Keeps.drew h
theorem Grew.drewN {w0 w : World} (h : Grew w0 w) (n : Nat) : Grew w0 (w.drewN n) := Keeps.drewN h n
theorem Mine.slice {w : World} {base : Nat} {e : TypeId} {v : Value} {xs : List Value} (h : Mine w base e v xs) : ∃ A n c, v = .slice A n c ∧ n = xs.length := by
  rcases h.form with ⟨rfl, rfl⟩ | ⟨g, cap, cur, rfl, _⟩
  · exact ⟨_, _, _, rfl, rfl⟩
  · exact ⟨_, _, _, rfl, rfl⟩

end Go.Proofs.YtggnifejlheebaaDoor
namespace Go.Proofs.YtggnifejlheebaaDoor
open Go.RowKit Pl

theorem Mine.cellAt {w : World} {base : Nat} {e : TypeId} {r n c : Nat} {xs : List Value} (h : Mine w base e (.slice (some ⟨r, 0, none⟩) n c) xs) {j : Nat} (hj : j < xs.length) : w.cell? ⟨r, j, none⟩ = some xs[j] := by
  rcases h.form with ⟨h, _⟩ | ⟨g, cap, cur, hv, _, hb, _, _, _, h4⟩
  · cases h
  · injection hv with hv _ _
    injection hv with hv
    injection hv with hv _ _
    subst hv
    rw [hb.cell, ← Array.getElem?_toList]
    have : (cur.toList.take xs.length)[j]? = some xs[j] := by rw [h4]; exact List.getElem?_eq_getElem hj
    rw [List.getElem?_take, if_pos hj] at this
    exact this
theorem Mine.frozenAt {w : World} {base : Nat} {e : TypeId} {r n c : Nat} {xs : List Value} (h : Mine w base e (.slice (some ⟨r, 0, none⟩) n c) xs) (j : Nat) : w.frozen? ⟨r, j, none⟩ = false := by
  rcases h.form with ⟨h, _⟩ | ⟨g, cap, cur, hv, _, hb, _⟩
  · cases h
  · injection hv with hv _ _
    injection hv with hv
    injection hv with hv _ _
    subst hv
    exact hb.frozen _
theorem Mine.len {w : World} {base : Nat} {e : TypeId} {A : Option Addr} {n c : Nat} {xs : List Value} (h : Mine w base e (.slice A n c) xs) : n = xs.length := by
  rcases h.form with ⟨h1, rfl⟩ | ⟨g, cap, cur, hv, _⟩
  · injection h1
  · injection hv
theorem Mine.some_ {w : World} {base : Nat} {e : TypeId} {A : Option Addr} {n c : Nat} {xs : List Value} (h : Mine w base e (.slice A n c) xs) (hx : 0 < xs.length) : ∃ r, A = some ⟨r, 0, none⟩ := by
  rcases h.form with ⟨_, rfl⟩ | ⟨g, cap, cur, hv, _⟩
  · simp at hx
  · injection hv with hv _ _
    exact ⟨g, hv⟩
theorem Grew.store {w0 w : World} {e : TypeId} {r n c : Nat} {xs : List Value} (h : Grew w0 w) (hm : Mine w w0.heap.size e (.slice (some ⟨r, 0, none⟩) n c) xs) (j : Nat) (u : Value) : Grew w0 (w.setCell ⟨r, j, none⟩ u) :=
  Keeps.setCell h (.inr (hm.lt r rfl).1) u

theorem Grew.cell_eq {w0 w w' : World} (h : Grew w0 w) (k : Grew w0 w') {a : Addr} {j : Nat} (ha : a.block < w0.heap.size) : w'.cell? (a.add j) = w.cell? (a.add j) := by
  have hb : (a.add j).block < w0.heap.size := by rw [block_add]; exact ha
  exact (World.cell?_of_block (k.block _ hb (fun e => e))).trans (World.cell?_of_block (h.block _ hb (fun e => e))).symm

theorem pow7 (j : Nat) : IntKind.u8.wrap (2 ^ (7 - j % 8) : Int) = ((2 ^ (7 - j % 8) : Nat) : Int) := by
  have : j % 8 = 0 ∨ j % 8 = 1 ∨ j % 8 = 2 ∨ j % 8 = 3 ∨ j % 8 = 4 ∨ j % 8 = 5 ∨ j % 8 = 6 ∨ j % 8 = 7 := by omega
  rcases this with h | h | h | h | h | h | h | h <;> rw [h] <;> rfl

end Go.Proofs.YtggnifejlheebaaDoor
namespace Go.Proofs.YtggnifejlheebaaDoor
open Go.RowKit Pl

end Go.Proofs.YtggnifejlheebaaDoor
namespace Go.Proofs.YtggnifejlheebaaDoor
open Go.RowKit Pl

theorem Rd.int_at {w : World} {B : Nat} {A : Option Addr} {n c j : Nat} {l : List Int} (h : Rd w B (.slice A n c) (l.map vi)) (hj : j < l.length) : ∃ ad, A = some ad ∧ ad.block < B ∧ w.cell? (ad.add j) = some (.int .i64 (l.getD j 0)) := by
  obtain ⟨ad, u, rfl, hadb, hu, hcell⟩ := h.at_ (j := j) (by rw [List.length_map]; exact hj)
  refine ⟨ad, rfl, hadb, ?_⟩
  rw [List.getElem?_map, List.getElem?_eq_getElem hj] at hu
  rw [hcell, ← Option.some.inj hu, List.getD_eq_getElem?_getD, List.getElem?_eq_getElem hj]; rfl
theorem getD_I64 {l : List Int} (hi : ∀ x ∈ l, I64 x) (j : Nat) : I64 (l.getD j 0) := by
  rw [List.getD_eq_getElem?_getD]
  by_cases hj : j < l.length
  · rw [List.getElem?_eq_getElem hj]; exact hi _ (List.getElem_mem hj)
  · rw [List.getElem?_eq_none (by omega)]; show I64 0; unfold I64; omega
theorem seconds_I64 (b a : Int) (l : List Int) : ∀ x ∈ seconds b a l, I64 x := by
  induction l generalizing b a with
  | nil => intro x hx; simp [seconds] at hx
  | cons y l ih =>
    intro x hx
    simp only [seconds, List.mem_cons] at hx
    rcases hx with rfl | hx
    · exact wrap_I64 _
    · exact ih _ _ x hx

theorem Mine.aside {w w' : World} {b b' : Nat} {e e' : TypeId} {v v' : Value} {xs ys : List Value} (h : Mine w b e v xs) (h' : Mine w b' e' v' ys) (hne : e' ≠ e) (hk : Keeps (fun i => v'.ownBlock = some i) w w') : Mine w' b e v xs :=
  h.keep hk fun k hk' e1 => by
    rcases h.form with ⟨rfl, _⟩ | ⟨g, cap, cur, rfl, _, hbox, _⟩
    · cases hk'
    · have : g = k := by simpa [Value.ownBlock] using hk'
      subst this
      exact h'.ne_box e1 hbox hne rfl
theorem codes_take (l : List Int) (j : Nat) (hj : j < l.length) : codes (l.take (j + 1)) = codes (l.take j) ++ code (l.getD j 0) := by
  rw [List.take_add_one, List.getElem?_eq_getElem hj, Option.toList_some, codes_snoc, List.getD_eq_getElem?_getD, List.getElem?_eq_getElem hj]; rfl

end Go.Proofs.YtggnifejlheebaaDoor
