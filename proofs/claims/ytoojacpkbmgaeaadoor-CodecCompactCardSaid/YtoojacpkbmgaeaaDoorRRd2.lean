/- The reference's reader: Unary, Bits. -/
import Derived.Test.YtoojacpkbmgaeaaDoorRRead
namespace Go.Proofs.YtoojacpkbmgaeaaDoor
open Go.RowKit Pl

/- the reference's reader in block g: the bits s, so many read, the error -/
structure RR (w : World) (base g : Nat) (v : Value) (s : List Bool) (at_ : Nat) (er : Int) : Prop where
  box : Box w g 119 #[v, .int .i64 (at_ : Nat), .int .i64 er]
  row : Mine w base 4 v (s.map vbo)
  small : s.length ≤ 1000000000
  here : at_ ≤ s.length
theorem RR.drewN {w : World} {base g : Nat} {v : Value} {s : List Bool} {a : Nat} {er : Int} (h : RR w base g v s a er) (n : Nat) : RR (w.drewN n) base g v s a er := ⟨h.box, h.row, h.small, h.here⟩
theorem RR.form {w : World} {base g : Nat} {v : Value} {s : List Bool} {a : Nat} {er : Int} (h : RR w base g v s a er) : ∃ A n c, v = .slice A n c ∧ n = s.length := by
  obtain ⟨A, n, c, rfl, hn⟩ := h.row.slice
  exact ⟨A, n, c, rfl, by simpa using hn⟩
theorem RR.setAt {w : World} {base g : Nat} {v : Value} {s : List Bool} {a : Nat} {er : Int} (h : RR w base g v s a er) (b : Nat) (hb : b ≤ s.length) : RR (w.setCell ⟨g, 1, none⟩ (.int .i64 (b : Nat))) base g v s b er :=
  ⟨by simpa using h.box.set_ 1 (.int .i64 (b : Nat)), h.row.far (fun e => h.row.ne_box e h.box (by decide) rfl) _, h.small, hb⟩
theorem RR.setErr {w : World} {base g : Nat} {v : Value} {s : List Bool} {a : Nat} {er : Int} (h : RR w base g v s a er) (x : Int) : RR (w.setCell ⟨g, 2, none⟩ (.int .i64 x)) base g v s a x :=
  ⟨by simpa using h.box.set_ 2 (.int .i64 x), h.row.far (fun e => h.row.ne_box e h.box (by decide) rfl) _, h.small, h.here⟩
theorem RR.alloc {w : World} {base g : Nat} {v : Value} {s : List Bool} {a : Nat} {er : Int} (h : RR w base g v s a er) (o : Obj) : RR (w.alloc o) base g v s a er :=
  ⟨h.box.alloc o, h.row.alloc o, h.small, h.here⟩
theorem RR.grew {w w' : World} {base g : Nat} {v : Value} {s : List Bool} {a : Nat} {er : Int} (h : RR w base g v s a er) (hk : Grew w w') : RR w' base g v s a er :=
  ⟨h.box.grew hk, h.row.grew hk, h.small, h.here⟩
/- the cell of a bit -/
theorem RR.bit {w : World} {base g : Nat} {A : Option Addr} {n c : Nat} {s : List Bool} {a : Nat} {er : Int} (h : RR w base g (.slice A n c) s a er) {k : Nat} (hk : k < s.length) : ∃ r, A = some ⟨r, 0, none⟩ ∧ w.cell? ⟨r, k, none⟩ = some (.bool s[k]) := by
  obtain ⟨r, rfl⟩ := h.row.some_ (by rw [List.length_map]; omega)
  refine ⟨r, rfl, ?_⟩
  have := h.row.cellAt (j := k) (by rw [List.length_map]; exact hk)
  rw [List.getElem_map] at this
  exact this

/- what Unary does -/
def RUPost (base g : Nat) (v : Value) (s : List Bool) (a : Nat) (w : World) (o : Option (Nat × List Bool)) (e : Ending) (w' : World) : Prop :=
  KeepsR g w w' ∧
  match o with
  | some (i, _) => e = .returned (.int .i64 (i : Nat)) ∧ RR w' base g v s (a + i + 1) 0
  | none => e = .returned (.int .i64 0) ∧ ∃ er, (er = 3 ∨ er = 4) ∧ RR w' base g v s a er

set_option maxHeartbeats 6400000 in
set_option maxRecDepth 100000 in
theorem rdunary_any (g base : Nat) (v : Value) (s : List Bool) (a most : Nat) (w : World) (h : RR w base g v s a 0) (hm1 : 1 ≤ most) (hm : most ≤ 64) :
    Calls Tryd.prog 112 #[.pointer (some ⟨g, 0, none⟩), .int .i64 (most : Nat)] w (RUPost base g v s a w (ones most (s.drop a))) := by
  have hsm := h.small
  have hhe := h.here
  obtain ⟨A, n, c, rfl, hn⟩ := h.form
  have HN := Lib.hid hn
  have hsn : n ≤ 1000000000 := by omega
  clear hn
  have hmax : ¬ ((most : Int) < 0) := by omega
  have hmx : ¬ ((0 : Int) < (most : Int)) → most = 0 := by omega
  have HMX := Lib.hid hmx
  clear hmx
  go_enter Tryd.func112, Tryd.ntmps112
  go_wp2_with fail
  go_loopw [5] (fun i wr => ∃ (j : Nat) (er : Int), j ≤ most + 1 ∧ i = .int .i64 j ∧ RR wr base g (.slice A n c) s a er ∧ KeepsR g w wr ∧ ((er = 0 ∧ a + j ≤ n ∧ Ones most (s.drop a) j (s.drop (a + j))) ∨ (er = 4 ∧ ones most (s.drop a) = none))) (fun i _ => most + 2 - (intOf i).toNat)
  case atStart => exact ⟨0, 0, by omega, rfl, h, KeepsR.refl _ _, .inl ⟨rfl, by rw [HN.out]; omega, Ones.start _ _⟩⟩
  case round =>
    clear h
    obtain ⟨j, er, hj, rfl, hW, hK, hO⟩ := hrel
    have c0 := hW.box.cell 0
    have c1 := hW.box.cell 1
    have c2 := hW.box.cell 2
    have f1 := hW.box.frozen 1
    have f2 := hW.box.frozen 2
    simp only [List.getElem?_toArray, List.getElem?_cons_zero, List.getElem?_cons_succ] at c0 c1 c2
    rcases hO with ⟨rfl, hjn, hO⟩ | ⟨rfl, hO⟩
    · have hjm := hO.1
      have HO := Lib.hid hO
      clear hO
      have hwr : IntKind.i64.wrap ((a : Int) + (j : Int)) = (a : Int) + (j : Int) := IntWalk.i64_in _ (by omega)
      have htn : ((a : Int) + (j : Int)).toNat = a + j := by omega
      have hp0 : (0 : Int) ≤ (a : Int) + (j : Int) := by omega
      by_cases hlt : a + j < n
      · have hltI : (a : Int) + (j : Int) < (n : Int) := by omega
        have hd1 : decide ((n : Int) ≤ (a : Int) + (j : Int)) = false := by rw [decide_eq_false_iff_not]; omega
        have hd2 : decide (n ≤ a + j) = false := by rw [decide_eq_false_iff_not]; omega
        have hls : a + j < s.length := by rw [← HN.out]; exact hlt
        obtain ⟨r, rfl, hcb⟩ := hW.bit hls
        have hdr : s.drop (a + j) = s[a + j] :: s.drop (a + j + 1) := List.drop_eq_getElem_cons hls
        have HDR := Lib.hid hdr
        clear hdr
        cases hb : s[a + j] with
        | false =>
          have hres : ones most (s.drop a) = some (j, s.drop (a + j + 1)) := by
            have := HO.out
            rw [HDR.out, hb] at this
            exact this.stop
          have HR := Lib.hid hres
          rw [hb] at hcb
          clear hres hb
          go_wp2_with fail
          go_quiet (fail)
          go_wp2_with fail
          go_quiet (fail)
          go_wp2_with fail
          go_ret
          rw [HR.out]
          have hv : (a : Int) + (j : Int) + 1 = ((a + j + 1 : Nat) : Int) := by omega
          rw [hv]
          exact ⟨(hK.drewN _).trans (KeepsR.set g _ 1 _), rfl, (hW.drewN _).setAt (a + j + 1) (by omega)⟩
        | true =>
          have HB := Lib.hid hb
          rw [hb] at hcb
          clear hb
          by_cases hjm2 : j < most
          · have hm0 : (0 : Int) < (most : Int) := by omega
            have hge : ¬ ((most : Int) ≤ (j : Int)) := by omega
            go_wp2_with fail
            go_quiet (fail)
            go_wp2_with fail
            go_quiet (fail)
            go_wp2_with fail
            go_roundw
            case rel =>
              refine ⟨j + 1, 0, by omega, by go_num, hW.drewN _, hK.drewN _, .inl ⟨rfl, by omega, ?_⟩⟩
              have := HO.out
              rw [HDR.out, HB.out] at this
              exact this.more hjm2
            case measure => simp [intOf]; omega
          · obtain rfl : j = most := by omega
            have hres : ones j (s.drop a) = none := by
              have := HO.out
              rw [HDR.out, HB.out] at this
              exact this.full
            have HR := Lib.hid hres
            clear hres
            have hm0 : (0 : Int) < (j : Int) := by omega
            go_wp2_with fail
            go_quiet (fail)
            go_wp2_with fail
            go_quiet (fail)
            go_wp2_with fail
            go_roundw
            case rel => exact ⟨j + 1, 4, by omega, by go_num, (hW.drewN _).setErr 4, (hK.drewN _).trans (KeepsR.set g _ 2 _), .inr ⟨rfl, HR.out⟩⟩
            case measure => simp [intOf]
      · have hd1 : decide ((n : Int) ≤ (a : Int) + (j : Int)) = true := by rw [decide_eq_true_eq]; omega
        have hd2 : decide (n ≤ a + j) = true := by rw [decide_eq_true_eq]; omega
        have hres : ones most (s.drop a) = none := by
          have := HO.out
          rw [List.drop_of_length_le (i := a + j) (by rw [← HN.out]; omega)] at this
          exact this.nil
        have HR := Lib.hid hres
        clear hres
        go_wp2_with fail
        go_quiet (fail)
        go_wp2_with fail
        go_ret
        rw [HR.out]
        exact ⟨(hK.drewN _).trans (KeepsR.set g _ 2 _), rfl, 3, .inl rfl, (hW.drewN _).setErr 3⟩
    · have HR := Lib.hid hO
      clear hO
      go_wp2_with fail
      go_ret
      rw [HR.out]
      exact ⟨hK, rfl, 4, .inr rfl, hW⟩
end Go.Proofs.YtoojacpkbmgaeaaDoor
