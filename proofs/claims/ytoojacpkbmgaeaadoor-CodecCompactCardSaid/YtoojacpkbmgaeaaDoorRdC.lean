/- The reader of bits: End, Read. -/
import Derived.Test.YtoojacpkbmgaeaaDoorRdB
namespace Go.Proofs.YtoojacpkbmgaeaaDoor
open Go.RowKit Pl

theorem take_snoc_bits (bs : List Nat) (a j : Nat) (h : a + j < 8 * bs.length) : ((bitsOf bs).drop a).take (j + 1) = ((bitsOf bs).drop a).take j ++ [bitAt bs (a + j)] := by
  rw [List.take_add_one, List.getElem?_drop]
  have hl : a + j < (bitsOf bs).length := by rw [bitsOf_length]; exact h
  rw [List.getElem?_eq_getElem hl]
  simp [bitsOf]

def endCode (r : List Bool) : Int := if padded r then 0 else 2
theorem endCode_yes {r : List Bool} (h : padded r) : endCode r = 0 := if_pos h
theorem endCode_no {r : List Bool} (h : ¬ padded r) : endCode r = 2 := if_neg h
set_option maxHeartbeats 3200000 in
set_option maxRecDepth 100000 in
theorem end_any (g base : Nat) (v : Value) (bs : List Nat) (a : Nat) (w : World) (h : BR w base g v bs a 0) :
    Calls Tryd.prog 74 #[.pointer (some ⟨g, 0, none⟩)] w fun e w' => e = .returned (.int .i64 (endCode ((bitsOf bs).drop a))) ∧ ∃ n, w' = w.drewN n := by
  have c2 := h.box.cell 2
  have hsm := h.small
  have hhe := h.here
  simp only [List.getElem?_toArray, List.getElem?_cons_zero, List.getElem?_cons_succ] at c2
  have hdl : ((bitsOf bs).drop a).length = 8 * bs.length - a := by rw [List.length_drop, bitsOf_length]
  have HDL := Lib.hid hdl
  have HLt := fun n => Lib.hid (left_any g base v bs a 0 _ (h.drewN n))
  have HL := Lib.hid HLt
  have HL0 := Lib.hid (left_any g base v bs a 0 _ h)
  clear hdl HLt
  by_cases h8 : 8 ≤ 8 * bs.length - a
  · have ht : (8 : Int) ≤ ((8 * bs.length - a : Nat) : Int) := by omega
    have hp : ¬ padded ((bitsOf bs).drop a) := by
      rintro ⟨h1, _⟩
      rw [HDL.out] at h1
      omega
    have HP := Lib.hid hp
    clear hp
    go_enter Tryd.func74, Tryd.ntmps74
    go_wp2_with (go_at_call 110; refine HL0.out.mono ?_; rintro e w2 ⟨rfl, n2, rfl⟩)
    go_ret
    exact ⟨by rw [endCode_no HP.out]; rfl, _, rfl⟩
  · have ht : ¬ ((8 : Int) ≤ ((8 * bs.length - a : Nat) : Int)) := by omega
    go_enter Tryd.func74, Tryd.ntmps74
    go_wp2_with fail
    refine HL0.out.mono ?_
    rintro e w2 ⟨rfl, n2, rfl⟩
    go_wp2_with fail
    refine (HL.out n2).out.mono ?_
    rintro e w3 ⟨rfl, n3, rfl⟩
    go_wp2_with fail
    go_loopw [18] (fun i wr => ∃ (j m : Nat), j ≤ 8 * bs.length - a ∧ i = .int .i64 j ∧ wr = w.drewN m ∧ ∀ b ∈ ((bitsOf bs).drop a).take j, b = false) (fun i _ => 8 - (intOf i).toNat)
    case atStart => exact ⟨0, n2 + n3, by omega, rfl, by simp, by simp⟩
    case round =>
      obtain ⟨j, m, hj, rfl, rfl, hA⟩ := hrel
      have hW := h.drewN m
      have c1 := hW.box.cell 1
      simp only [List.getElem?_toArray, List.getElem?_cons_zero, List.getElem?_cons_succ] at c1
      have HA := Lib.hid hA
      clear hA
      by_cases hlt : j < 8 * bs.length - a
      · have HS := Lib.hid (set_any g base v bs a (a + j) 0 _ hW (by omega))
        have hts := take_snoc_bits bs a j (by omega)
        have HT := Lib.hid hts
        have hlti : (j : Int) < ((8 * bs.length - a : Nat) : Int) := by omega
        clear hts
        cases hb : bitAt bs (a + j) with
        | false =>
          have HB := Lib.hid hb
          clear hb
          go_wp2_with (go_at_call 111; refine HS.out.mono ?_; rw [HB.out]; rintro e w4 ⟨rfl, n4, rfl⟩)
          go_roundw
          case rel =>
            refine ⟨j + 1, m + n4, by omega, by go_num, by simp, ?_⟩
            rw [HT.out, HB.out]
            intro b hbm
            rcases List.mem_append.1 hbm with hbm | hbm
            · exact HA.out b hbm
            · simpa using hbm
          case measure => simp [intOf]; omega
        | true =>
          have HB := Lib.hid hb
          clear hb
          have hp : ¬ padded ((bitsOf bs).drop a) := by
            rintro ⟨_, h2⟩
            have := h2 true (List.mem_of_mem_take (i := j + 1) (by rw [HT.out, HB.out]; simp))
            cases this
          have HP := Lib.hid hp
          clear hp
          go_wp2_with (go_at_call 111; refine HS.out.mono ?_; rw [HB.out]; rintro e w4 ⟨rfl, n4, rfl⟩)
          go_ret
          exact ⟨by rw [endCode_no HP.out]; rfl, m + n4, by simp⟩
      · have hp : padded ((bitsOf bs).drop a) := by
          refine ⟨by rw [HDL.out]; omega, ?_⟩
          have := HA.out
          rw [List.take_of_length_le (by rw [HDL.out]; omega)] at this
          exact this
        have HP := Lib.hid hp
        clear hp
        have hlti : ¬ ((j : Int) < ((8 * bs.length - a : Nat) : Int)) := by omega
        go_wp2_with fail
        go_ret
        exact ⟨by rw [endCode_yes HP.out]; rfl, _, rfl⟩

def NewReader (bs : List Nat) (w : World) (e : Ending) (w' : World) : Prop :=
  ∃ g v', e = .returned (.pointer (some ⟨g, 0, none⟩)) ∧ BR w' w.heap.size g v' bs 0 0 ∧ w.heap.size ≤ g ∧ Grew w w'
set_option maxHeartbeats 800000 in
theorem bread_any (v : Value) (bs : List Nat) (w : World) (h : Rd w w.heap.size v (bs.map vb)) (hb : Bytes bs) (hs : bs.length ≤ 1000000000) :
    Calls Tryd.prog 72 #[v] w (NewReader bs w) := by
  have HC := Lib.hid (clone_any v bs w h (by omega))
  clear h
  go_enter Tryd.func72, Tryd.ntmps72
  go_wp2_with (go_at_call 86; refine HC.out.mono ?_; rintro e w2 ⟨v2, rfl, k1, k2⟩; obtain ⟨A2, n2, c2, rfl, -⟩ := k1.slice)
  go_ret
  exact ⟨w2.heap.size, _, rfl, ⟨Box.new _ _ _, k1.alloc _, hb, hs, by omega⟩, k2.size, k2.alloc _⟩
end Go.Proofs.YtoojacpkbmgaeaaDoor
