/- hash.groups at byte slices: its iterator hands out the words. hash.groups at strings: its iterator hands out the words. -/
import Derived.Test.YtgkmfblmkfclbaaGreatDoorBlockSoundP13
import Derived.Test.YtgkmfblmkfclbaaGreatDoorBlockSoundP03
import Derived.Test.YtgkmfblmkfclbaaGreatDoorBlockSoundP04
namespace Go.Proofs.YtgkmfblmkfclbaaGreatDoor
open Go.RowKit Go.Shelf Pl
attribute [local go_sem] Oper.semAt_some

abbrev W64 := Fin 18446744073709551616
def wordsF (bs : List Nat) : List W64 := (words bs).map fun x => Fin.ofNat 18446744073709551616 x
theorem wordsF_length (bs : List Nat) : (wordsF bs).length = nwords bs := by unfold wordsF; rw [List.length_map, words_length]
theorem wordsF_take {bs : List Nat} (h : Bytes bs) (j : Nat) (hj : j < nwords bs) : (wordsF bs).take (j + 1) = (wordsF bs).take j ++ [⟨leN (chunk bs j), chunk_lt h j⟩] := by
  unfold wordsF
  rw [← List.map_take, words_take bs j hj, List.map_append, List.map_take]
  congr 2
  exact congrArg (fun x => [x]) (Fin.ext (Nat.mod_eq_of_lt (chunk_lt h j)))
theorem wordsF_val {bs : List Nat} (h : Bytes bs) : (wordsF bs).map (fun x => x.val) = words bs := by
  unfold wordsF
  rw [List.map_map]
  conv => rhs; rw [← List.map_id (words bs)]
  apply List.map_congr_left
  intro x hx
  exact Nat.mod_eq_of_lt (words_lt h x hx)
/- what the iterator wants kept -/
def KpB (B0 Bn : Nat) (W W' : World) : Prop := ∀ k, (k < B0 ∨ k = Bn) → W'.heap[k]? = W.heap[k]?
theorem KpB.trans {B0 Bn : Nat} {A B C : World} (h : KpB B0 Bn A B) (k : KpB B0 Bn B C) : KpB B0 Bn A C := fun i hi => (k i hi).trans (h i hi)
theorem KpB.cell {B0 Bn : Nat} {W W' : World} (h : KpB B0 Bn W W') {o : Nat} : W'.cell? ⟨Bn, o, none⟩ = W.cell? ⟨Bn, o, none⟩ := World.cell?_of_block (h Bn (.inr rfl))
theorem KpB.rd {B0 Bn : Nat} {W W' : World} (h : KpB B0 Bn W W') {v : Value} {xs : List Value} (hr : Rd W B0 v xs) : Rd W' B0 v xs := by
  obtain ⟨A, c, hv, hc, hx⟩ := hr
  refine ⟨A, c, hv, hc, fun hn => ?_⟩
  obtain ⟨ad, e, hb, hcell⟩ := hx hn
  refine ⟨ad, e, hb, fun j u hu => (World.cell?_of_block ?_).trans (hcell j u hu)⟩
  rw [block_add]
  exact h _ (.inl hb)

theorem or_word (a x t : Nat) (ha : a < 256 ^ t) (hx : x < 256) (ht : t < 8) : bits BinOp.or IntKind.u64 (a : Int) (IntKind.u64.wrap ((x : Int) * 2 ^ (8 * t))) = ((a + x * 256 ^ t : Nat) : Int) := by
  have hp : (256 : Nat) ^ t = 2 ^ (8 * t) := by rw [Nat.pow_mul]
  rw [hp] at ha ⊢
  have e : (x : Int) * 2 ^ (8 * t) = ((x * 2 ^ (8 * t) : Nat) : Int) := by rw [Int.natCast_mul, Int.natCast_pow]; rfl
  have hq : (2 : Nat) ^ (8 * t) ≤ 2 ^ 56 := Nat.pow_le_pow_right (by omega) (by omega)
  have hl : x * 2 ^ (8 * t) < 18446744073709551616 := by
    have : x * 2 ^ (8 * t) ≤ 255 * 2 ^ 56 := Nat.mul_le_mul (by omega) hq
    omega
  have ha2 : a < 18446744073709551616 := by omega
  rw [e, IntKind.wrap_u64, Int.emod_eq_of_lt (by omega) (by omega), u64_or_nat _ _ ha2 hl, or_shift a x _ ha]

set_option maxRecDepth 100000 in
set_option maxHeartbeats 3200000 in
theorem grp_in (F : Fence) (n : Nat) (hf : F.fn 71) (hro : F.round = none) (hn : 1 ≤ n) (l Bn B0 : Nat) (A : Option Addr) (q c : Nat) (bs : List Nat) (hbb : Bytes bs) (hq : q = bs.length) (hsm : q ≤ 1000000000) (J Jx : List W64 → World → Prop)
    (hY : ∀ pre (x : W64) W, J pre W → pre.length < nwords bs → YieldAt F (n - 1) Tryz.prog l #[.int .u64 (x.val : Nat)] W fun e W' =>
      (e = .returned (.bool true) ∧ J (pre ++ [x]) W' ∧ KpB B0 Bn W W') ∨ (e = .returned (.bool false) ∧ Jx (pre ++ [x]) W'))
    (W : World) (hB : W.cell? ⟨Bn, 0, none⟩ = some (.slice A q c)) (hR : Rd W B0 (.slice A q c) (bs.map vb)) (h0 : J [] W) :
    CallsIn F n Tryz.prog 71 #[.func (.yield l) #[] #[], .pointer (some ⟨Bn, 0, none⟩)] W fun e W' => (∃ v, e = .returned v) ∧
      ((∃ xs, xs = wordsF bs ∧ J xs W') ∨ (∃ pre : List W64, True ∧ Jx pre W')) := by
  have HQ := Lib.hid hq
  have hnw : nwords bs = (q + 7) / 8 := by rw [hq]; rfl
  have HNW := Lib.hid hnw
  have HY := Lib.hid hY
  have HR := Lib.hid hR
  clear hq hnw hY hR
  refine callsIn_of_wp Tryz.func71 rfl hf ?_ hro
  simp only [Tryz.ntmps71, List.size_toArray, List.length_cons, List.length_nil, Nat.reduceAdd, Nat.reduceSub, Array.replicate_succ, Array.replicate_zero, List.push_toArray, List.append_toArray, List.nil_append, List.cons_append]
  gi_wp2
  gi_loopw [3] (fun i wr => ∃ j : Nat, j ≤ (q + 7) / 8 ∧ i = .int .i64 (8 * (j : Int)) ∧ wr.cell? ⟨Bn, 0, none⟩ = some (.slice A q c) ∧ Rd wr B0 (.slice A q c) (bs.map vb) ∧ J ((wordsF bs).take j) wr) (fun i _ => (8 * ((q : Int) + 8) - intOf i).toNat)
  case atStart => exact ⟨0, by omega, by simp, hB, HR.out, by simpa using h0⟩
  case round =>
    clear hB HR h0
    obtain ⟨j, hj, rfl, hB, hR, hJ⟩ := hrel
    have HR := Lib.hid hR
    have HJ := Lib.hid hJ
    clear hR hJ
    by_cases hlt : 8 * j < q
    · have t0 : decide (8 * (j : Int) < (q : Int)) = true := by simp; omega
      gi_wp2
      gi_loopw [4, 5] (fun a i wi => ∃ t : Nat, t ≤ 8 ∧ 8 * j + t ≤ q ∧ i = .int .i64 (8 * (j : Int) + (t : Int)) ∧ a = .int .u64 (leN ((chunk bs j).take t) : Nat) ∧ wi = wr) (fun _ i _ => (8 * (j : Int) + 9 - intOf i).toNat)
      case atStart => exact ⟨0, by omega, by omega, by simp, by simp [leN], rfl⟩
      case round =>
        obtain ⟨t, ht, htq, rfl, rfl, rfl⟩ := hrel
        by_cases hgo : 8 * j + t < q ∧ t < 8
        · obtain ⟨hg1, hg2⟩ := hgo
          obtain ⟨ad, u, rfl, hadb, hu, hcell⟩ := HR.out.at_ (j := 8 * j + t) (by rw [List.length_map, ← HQ.out]; exact hg1)
          have hx := hbb (bs.getD (8 * j + t) 0) (by rw [List.getD_eq_getElem?_getD, List.getElem?_eq_getElem (by rw [← HQ.out]; exact hg1)]; exact List.getElem_mem _)
          have hxe : u = .int .u8 (bs.getD (8 * j + t) 0 : Nat) := by
            rw [List.getElem?_map, List.getElem?_eq_getElem (by rw [← HQ.out]; exact hg1)] at hu
            rw [List.getD_eq_getElem?_getD, List.getElem?_eq_getElem (by rw [← HQ.out]; exact hg1)]
            exact (Option.some.inj hu).symm
          rw [hxe] at hcell
          have HCT := Lib.hid (chunk_take bs j t hg2 (by rw [← HQ.out]; exact hg1))
          have hal := leN_lt _ (show Bytes ((chunk bs j).take t) from fun y hy => chunk_bytes hbb j y (List.mem_of_mem_take hy))
          have hctl : ((chunk bs j).take t).length = t := by rw [List.length_take, chunk_length, ← HQ.out]; omega
          rw [hctl] at hal
          have HAL := Lib.hid hal
          have HCL := Lib.hid hctl
          have t1 : decide (8 * (j : Int) + (t : Int) < (q : Int)) = true := by simp; omega
          have t2 : decide (8 * (j : Int) + (t : Int) < 8 * (j : Int) + 8) = true := by simp; omega
          have n0 : (0 : Int) ≤ 8 * (j : Int) + (t : Int) := by omega
          have n1 : 8 * (j : Int) + (t : Int) < (q : Int) := by omega
          have n2 : (8 * (j : Int) + (t : Int)).toNat = 8 * j + t := by omega
          have n3 : 8 * (j : Int) + (t : Int) - 8 * (j : Int) = (t : Int) := by omega
          clear hu hxe hal hctl
          generalize bs.getD (8 * j + t) 0 = x at *
          obtain ⟨a, ha⟩ : ∃ a, a = leN ((chunk bs j).take t) := ⟨_, rfl⟩
          rw [← ha] at HAL ⊢
          have HA := Lib.hid ha
          clear ha
          have HOW := Lib.hid (or_word a x t HAL.out hx hg2)
          gi_wp2
          refine ⟨⟨t + 1, by omega, by omega, by go_num, ?_, trivial⟩, by simp [intOf]; omega⟩
          rw [HOW.out, HCT.out, leN_snoc, HCL.out, HA.out]
        · have hex : decide (8 * (j : Int) + (t : Int) < (q : Int)) = false ∨ (decide (8 * (j : Int) + (t : Int) < (q : Int)) = true ∧ decide ((t : Int) < 8) = false) := by
            by_cases h1 : 8 * j + t < q
            · exact .inr ⟨by simp; omega, by simp; omega⟩
            · exact .inl (by simp; omega)
          have hall : (chunk bs j).take t = chunk bs j := List.take_of_length_le (by rw [chunk_length, ← HQ.out]; omega)
          rw [hall]
          obtain ⟨fn, tmps, assign, body, hy, hRd⟩ := HY.out ((wordsF bs).take j) ⟨leN (chunk bs j), chunk_lt hbb j⟩ _ HJ.out (by rw [List.length_take, wordsF_length, HNW.out]; omega)
          have HWT := Lib.hid (wordsF_take hbb j (by rw [HNW.out]; omega))
          clear hall hgo
          simp only at hy
          rcases hex with h1 | ⟨h1, h2⟩
          · gi_wp2
            refine hRd.mono ?_
            rintro e W3 (⟨rfl, hJ3, hK3⟩ | ⟨rfl, hJx3⟩)
            · rw [← HWT.out] at hJ3
              have hB3 := hK3.cell.trans hB
              have hR3 := hK3.rd HR.out
              gi_wp2
              go_roundw
              case rel => exact ⟨j + 1, by omega, by go_num, hB3, hR3, hJ3⟩
              case measure => simp [intOf]; omega
            · gi_wp2
              refine bodyPost_ret (results_none rfl _ _ _) rfl ?_
              exact ⟨⟨_, rfl⟩, .inr ⟨_, trivial, hJx3⟩⟩
          · gi_wp2
            refine hRd.mono ?_
            rintro e W3 (⟨rfl, hJ3, hK3⟩ | ⟨rfl, hJx3⟩)
            · rw [← HWT.out] at hJ3
              have hB3 := hK3.cell.trans hB
              have hR3 := hK3.rd HR.out
              gi_wp2
              go_roundw
              case rel => exact ⟨j + 1, by omega, by go_num, hB3, hR3, hJ3⟩
              case measure => simp [intOf]; omega
            · gi_wp2
              refine bodyPost_ret (results_none rfl _ _ _) rfl ?_
              exact ⟨⟨_, rfl⟩, .inr ⟨_, trivial, hJx3⟩⟩
    · have t0 : decide (8 * (j : Int) < (q : Int)) = false := by simp; omega
      gi_wp2
      go_end0
      refine ⟨⟨_, rfl⟩, .inl ⟨_, rfl, ?_⟩⟩
      have := HJ.out
      rw [List.take_of_length_le (by rw [wordsF_length, HNW.out]; omega)] at this
      exact this

theorem grp_stops (F : Fence) (n : Nat) (hf : F.fn 71) (hro : F.round = none) (hn : 1 ≤ n) (Bn B0 : Nat) (A : Option Addr) (q c : Nat) (bs : List Nat) (hbb : Bytes bs) (hq : q = bs.length) (hsm : q ≤ 1000000000)
    (w : World) (hlt : Bn < w.heap.size) (hB0 : B0 ≤ w.heap.size) (hB : w.cell? ⟨Bn, 0, none⟩ = some (.slice A q c)) (hR : Rd w B0 (.slice A q c) (bs.map vb)) :
    SeqStopsK (α := W64) F n Tryz.prog 71 #[.pointer (some ⟨Bn, 0, none⟩)] (fun x => #[.int .u64 (x.val : Nat)]) (KpB B0 Bn) (fun xs => xs = wordsF bs) (fun _ => True) (nwords bs) w :=
  fun l J Jx W hW _ _ hY h0 => grp_in F n hf hro hn l Bn B0 A q c bs hbb hq hsm J Jx hY W ((hW.cell (p := ⟨Bn, 0, none⟩) hlt).trans hB)
    (KpB.rd (B0 := B0) (Bn := Bn) (fun k hk => hW.block k (by rcases hk with h | h <;> omega)) hR) h0

theorem groups_any (v : Value) (A : Option Addr) (q c : Nat) (hv : v = .slice A q c) (w : World) :
    Calls Tryz.prog 51 #[v] w fun e w' => e = .returned (.func (.func 71) #[] #[.pointer (some ⟨w.heap.size, 0, none⟩)]) ∧ w' = w.alloc (.cells #[.slice A q c] 42) := by
  subst hv
  go_enter Tryz.func51, Tryz.ntmps51
  go_wp2
  go_ret
  exact ⟨rfl, rfl⟩
end Go.Proofs.YtgkmfblmkfclbaaGreatDoor
namespace Go.Proofs.YtgkmfblmkfclbaaGreatDoor
open Go.RowKit Go.Shelf Pl
attribute [local go_sem] Oper.semAt_some

set_option maxRecDepth 100000 in
set_option maxHeartbeats 3200000 in
theorem gst_in (F : Fence) (n : Nat) (hf : F.fn 91) (hro : F.round = none) (hn : 1 ≤ n) (l Bn B0 : Nat) (s : ByteArray) (q : Nat) (bs : List Nat) (hbb : Bytes bs) (hbs : bs = s.data.toList.map UInt8.toNat) (hqs : q = s.size) (hsm : q ≤ 1000000000) (J Jx : List W64 → World → Prop)
    (hY : ∀ pre (x : W64) W, J pre W → pre.length < nwords bs → YieldAt F (n - 1) Tryz.prog l #[.int .u64 (x.val : Nat)] W fun e W' =>
      (e = .returned (.bool true) ∧ J (pre ++ [x]) W' ∧ KpB B0 Bn W W') ∨ (e = .returned (.bool false) ∧ Jx (pre ++ [x]) W'))
    (W : World) (hB : W.cell? ⟨Bn, 0, none⟩ = some (.string s)) (h0 : J [] W) :
    CallsIn F n Tryz.prog 91 #[.func (.yield l) #[] #[], .pointer (some ⟨Bn, 0, none⟩)] W fun e W' => (∃ v, e = .returned v) ∧
      ((∃ xs, xs = wordsF bs ∧ J xs W') ∨ (∃ pre : List W64, True ∧ Jx pre W')) := by
  subst hqs
  have hq : s.size = bs.length := by rw [hbs, List.length_map, Array.length_toList]; rfl
  have HQ := Lib.hid hq
  have HBS := Lib.hid hbs
  have hnw : nwords bs = (s.size + 7) / 8 := by rw [hq]; rfl
  have HNW := Lib.hid hnw
  have HY := Lib.hid hY
  clear hq hnw hY hbs
  refine callsIn_of_wp Tryz.func91 rfl hf ?_ hro
  simp only [Tryz.ntmps91, List.size_toArray, List.length_cons, List.length_nil, Nat.reduceAdd, Nat.reduceSub, Array.replicate_succ, Array.replicate_zero, List.push_toArray, List.append_toArray, List.nil_append, List.cons_append]
  gi_wp2
  gi_loopw [3] (fun i wr => ∃ j : Nat, j ≤ (s.size + 7) / 8 ∧ i = .int .i64 (8 * (j : Int)) ∧ wr.cell? ⟨Bn, 0, none⟩ = some (.string s) ∧ J ((wordsF bs).take j) wr) (fun i _ => (8 * ((s.size : Int) + 8) - intOf i).toNat)
  case atStart => exact ⟨0, by omega, by simp, hB, by simpa using h0⟩
  case round =>
    clear hB h0
    obtain ⟨j, hj, rfl, hB, hJ⟩ := hrel
    have HJ := Lib.hid hJ
    clear hJ
    by_cases hlt : 8 * j < s.size
    · have t0 : decide (8 * (j : Int) < (s.size : Int)) = true := by simp; omega
      gi_wp2
      gi_loopw [4, 5] (fun a i wi => ∃ t : Nat, t ≤ 8 ∧ 8 * j + t ≤ s.size ∧ i = .int .i64 (8 * (j : Int) + (t : Int)) ∧ a = .int .u64 (leN ((chunk bs j).take t) : Nat) ∧ wi = wr) (fun _ i _ => (8 * (j : Int) + 9 - intOf i).toNat)
      case atStart => exact ⟨0, by omega, by omega, by simp, by simp [leN], rfl⟩
      case round =>
        obtain ⟨t, ht, htq, rfl, rfl, rfl⟩ := hrel
        by_cases hgo : 8 * j + t < s.size ∧ t < 8
        · obtain ⟨hg1, hg2⟩ := hgo
          have hsz : 8 * j + t < s.size := hg1
          have hgx : bs.getD (8 * j + t) 0 = (s[8 * j + t]'hsz).toNat := by
            rw [HBS.out, List.getD_eq_getElem?_getD, List.getElem?_map, List.getElem?_eq_getElem (by rw [Array.length_toList]; exact hsz)]
            rfl
          have HGX := Lib.hid hgx
          have hx := hbb (bs.getD (8 * j + t) 0) (by rw [List.getD_eq_getElem?_getD, List.getElem?_eq_getElem (by rw [← HQ.out]; exact hg1)]; exact List.getElem_mem _)
          have HCT := Lib.hid (chunk_take bs j t hg2 (by rw [← HQ.out]; exact hg1))
          have hal := leN_lt _ (show Bytes ((chunk bs j).take t) from fun y hy => chunk_bytes hbb j y (List.mem_of_mem_take hy))
          have hctl : ((chunk bs j).take t).length = t := by rw [List.length_take, chunk_length, ← HQ.out]; omega
          rw [hctl] at hal
          have HAL := Lib.hid hal
          have HCL := Lib.hid hctl
          have t1 : decide (8 * (j : Int) + (t : Int) < (s.size : Int)) = true := by simp; omega
          have t2 : decide (8 * (j : Int) + (t : Int) < 8 * (j : Int) + 8) = true := by simp; omega
          have n0 : (0 : Int) ≤ 8 * (j : Int) + (t : Int) := by omega
          have n1 : 8 * (j : Int) + (t : Int) < (s.size : Int) := by omega
          have n2 : (8 * (j : Int) + (t : Int)).toNat = 8 * j + t := by omega
          have n3 : 8 * (j : Int) + (t : Int) - 8 * (j : Int) = (t : Int) := by omega
          clear hal hctl hgx
          generalize bs.getD (8 * j + t) 0 = x at *
          obtain ⟨a, ha⟩ : ∃ a, a = leN ((chunk bs j).take t) := ⟨_, rfl⟩
          rw [← ha] at HAL ⊢
          have HA := Lib.hid ha
          clear ha
          have HWX := Lib.hid (show IntKind.u64.wrap (x : Int) = (x : Int) by rw [IntKind.wrap_u64, Int.emod_eq_of_lt (by omega) (by omega)])
          have HOW := Lib.hid (or_word a x t HAL.out hx hg2)
          gi_wp2
          refine ⟨⟨t + 1, by omega, by omega, by go_num, ?_, trivial⟩, by simp [intOf]; omega⟩
          rw [← HGX.out, HWX.out, HOW.out, HCT.out, leN_snoc, HCL.out, HA.out]
        · have hex : decide (8 * (j : Int) + (t : Int) < (s.size : Int)) = false ∨ (decide (8 * (j : Int) + (t : Int) < (s.size : Int)) = true ∧ decide ((t : Int) < 8) = false) := by
            by_cases h1 : 8 * j + t < s.size
            · exact .inr ⟨by simp; omega, by simp; omega⟩
            · exact .inl (by simp; omega)
          have hall : (chunk bs j).take t = chunk bs j := List.take_of_length_le (by rw [chunk_length, ← HQ.out]; omega)
          rw [hall]
          obtain ⟨fn, tmps, assign, body, hy, hRd⟩ := HY.out ((wordsF bs).take j) ⟨leN (chunk bs j), chunk_lt hbb j⟩ _ HJ.out (by rw [List.length_take, wordsF_length, HNW.out]; omega)
          have HWT := Lib.hid (wordsF_take hbb j (by rw [HNW.out]; omega))
          clear hall hgo
          simp only at hy
          rcases hex with h1 | ⟨h1, h2⟩
          · gi_wp2
            refine hRd.mono ?_
            rintro e W3 (⟨rfl, hJ3, hK3⟩ | ⟨rfl, hJx3⟩)
            · rw [← HWT.out] at hJ3
              have hB3 := hK3.cell.trans hB
              gi_wp2
              go_roundw
              case rel => exact ⟨j + 1, by omega, by go_num, hB3, hJ3⟩
              case measure => simp [intOf]; omega
            · gi_wp2
              refine bodyPost_ret (results_none rfl _ _ _) rfl ?_
              exact ⟨⟨_, rfl⟩, .inr ⟨_, trivial, hJx3⟩⟩
          · gi_wp2
            refine hRd.mono ?_
            rintro e W3 (⟨rfl, hJ3, hK3⟩ | ⟨rfl, hJx3⟩)
            · rw [← HWT.out] at hJ3
              have hB3 := hK3.cell.trans hB
              gi_wp2
              go_roundw
              case rel => exact ⟨j + 1, by omega, by go_num, hB3, hJ3⟩
              case measure => simp [intOf]; omega
            · gi_wp2
              refine bodyPost_ret (results_none rfl _ _ _) rfl ?_
              exact ⟨⟨_, rfl⟩, .inr ⟨_, trivial, hJx3⟩⟩
    · have t0 : decide (8 * (j : Int) < (s.size : Int)) = false := by simp; omega
      gi_wp2
      go_end0
      refine ⟨⟨_, rfl⟩, .inl ⟨_, rfl, ?_⟩⟩
      have := HJ.out
      rw [List.take_of_length_le (by rw [wordsF_length, HNW.out]; omega)] at this
      exact this


theorem gst_stops (F : Fence) (n : Nat) (hf : F.fn 91) (hro : F.round = none) (hn : 1 ≤ n) (Bn B0 : Nat) (s : ByteArray) (bs : List Nat) (hbb : Bytes bs) (hbs : bs = s.data.toList.map UInt8.toNat) (hsm : s.size ≤ 1000000000)
    (w : World) (hlt : Bn < w.heap.size) (hB : w.cell? ⟨Bn, 0, none⟩ = some (.string s)) :
    SeqStopsK (α := W64) F n Tryz.prog 91 #[.pointer (some ⟨Bn, 0, none⟩)] (fun x => #[.int .u64 (x.val : Nat)]) (KpB B0 Bn) (fun xs => xs = wordsF bs) (fun _ => True) (nwords bs) w :=
  fun l J Jx W hW _ _ hY h0 => gst_in F n hf hro hn l Bn B0 s s.size bs hbb hbs rfl hsm J Jx hY W ((hW.cell (p := ⟨Bn, 0, none⟩) hlt).trans hB) h0

theorem groupsS_any (s : ByteArray) (w : World) :
    Calls Tryz.prog 72 #[.string s] w fun e w' => e = .returned (.func (.func 91) #[] #[.pointer (some ⟨w.heap.size, 0, none⟩)]) ∧ w' = w.alloc (.cells #[.string s] 9) := by
  go_enter Tryz.func72, Tryz.ntmps72
  go_wp2
  go_ret
  exact ⟨rfl, rfl⟩
end Go.Proofs.YtgkmfblmkfclbaaGreatDoor
