/- decl.Valid at a good declaration: OK. decl.Span, claims.Valid, envelope.source. -/
import Derived.Test.YtgkmfblmkfclbaaGreatDoorBlockSoundP20
import Derived.Test.YtgkmfblmkfclbaaGreatDoorBlockSoundP22
import Derived.Test.YtgkmfblmkfclbaaGreatDoorBlockSoundP12
import Derived.Test.YtgkmfblmkfclbaaGreatDoorBlockSoundP11
namespace Go.Proofs.YtgkmfblmkfclbaaGreatDoor
open Go.RowKit Pl

/- the numbers of a good declaration -/
structure GoodD (x : Fin 10 → Int) : Prop where
  u0 : -3 ≤ x 0 ∧ x 0 ≤ 3
  u1 : -3 ≤ x 1 ∧ x 1 ≤ 3
  u2 : -3 ≤ x 2 ∧ x 2 ≤ 3
  lo : -1073741824 ≤ x 3
  hi : x 3 ≤ x 4
  hi2 : x 4 ≤ 1073741824
  down : -1048576 ≤ x 5
  up : x 5 ≤ x 6
  up2 : x 6 ≤ 1048576
  first : 0 ≤ x 7
  last : x 7 ≤ x 8
  last2 : x 8 ≤ 1048576
  span : x 8 - x 7 < 4096
  bud : 0 ≤ x 9 ∧ x 9 ≤ 1073741824
/- labels that are valid -/
def GoodL (ls : List (ByteArray × ByteArray)) : Prop := ls.length ≤ 2 ∧ (∀ p ∈ ls, Low p.1 ∧ Low p.2) ∧ ∀ (h : 1 < ls.length), Op.bytesLess (ls[0].1).toList (ls[1].1).toList = true

set_option maxHeartbeats 6400000 in
set_option maxRecDepth 100000 in
theorem dvalid_any (nm : ByteArray) (v : Value) (ls : List (ByteArray × ByteArray)) (x : Fin 10 → Int) (w : World) (hnm : Low nm) (hL : RdL w v ls) (hls : GoodL ls) (hx : GoodD x) :
    Calls Tryz.prog 46 #[vdecl nm v x] w fun e w' => e = .returned (.int .i64 0) ∧ Grew w w' := by
  have HV := Lib.hid (fun w' (g : Grew w w') => lvalid_any v ls w' (hL.grew g) hls.1 hls.2.1 hls.2.2)
  have HN := Lib.hid (fun w' => name_low nm hnm w')
  obtain ⟨A, c, rfl⟩ := hL.slc
  generalize ls.length = n at *
  obtain ⟨⟨u0, u0'⟩, ⟨u1, u1'⟩, ⟨u2, u2'⟩, h1, h2, h3, h4, h5, h6, h7, h8, h9, h10, ⟨h11, h12⟩⟩ := hx
  unfold vdecl
  generalize x 0 = a0 at *
  generalize x 1 = a1 at *
  generalize x 2 = a2 at *
  generalize x 3 = a3 at *
  generalize x 4 = a4 at *
  generalize x 5 = a5 at *
  generalize x 6 = a6 at *
  generalize x 7 = a7 at *
  generalize x 8 = a8 at *
  generalize x 9 = a9 at *
  have d0 : decide (a3 < -1073741824) = false := by simp; omega
  have d1 : decide (a4 < a3) = false := by simp; omega
  have d2 : decide (1073741824 < a4) = false := by simp; omega
  have d3 : decide (a5 < -1048576) = false := by simp; omega
  have d4 : decide (a6 < a5) = false := by simp; omega
  have d5 : decide (1048576 < a6) = false := by simp; omega
  have d6 : decide (a9 < 0) = false := by simp; omega
  have d7 : decide (1073741824 < a9) = false := by simp; omega
  have d8 : decide (a7 < 0) = false := by simp; omega
  have d9 : decide (a8 < a7) = false := by simp; omega
  have d10 : decide (1048576 < a8) = false := by simp; omega
  have d11 : decide (4096 ≤ a8 - a7) = false := by simp; omega
  have d12 : decide (a0 < -3) = false := by simp; omega
  have d13 : decide (3 < a0) = false := by simp; omega
  have d14 : decide (a1 < -3) = false := by simp; omega
  have d15 : decide (3 < a1) = false := by simp; omega
  have d16 : decide (a2 < -3) = false := by simp; omega
  have d17 : decide (3 < a2) = false := by simp; omega
  have s1 : IntKind.i64.wrap (a8 - a7) = a8 - a7 := IntWalk.i64_in _ (by omega)
  clear hL hls hnm
  go_enter Tryz.func46, Tryz.ntmps46
  go_upto_region 1 with fail
  have hbx := Box.new w 27 #[.string nm, .slice A n c, .int .i64 a0, .int .i64 a1, .int .i64 a2, .int .i64 a3, .int .i64 a4, .int .i64 a5, .int .i64 a6, .int .i64 a7, .int .i64 a8, .int .i64 a9]
  have hG1 : Grew w (w.alloc (.cells #[.string nm, .slice A n c, .int .i64 a0, .int .i64 a1, .int .i64 a2, .int .i64 a3, .int .i64 a4, .int .i64 a5, .int .i64 a6, .int .i64 a7, .int .i64 a8, .int .i64 a9] 27)) := (Grew.refl w).alloc _
  generalize w.alloc (.cells #[.string nm, .slice A n c, .int .i64 a0, .int .i64 a1, .int .i64 a2, .int .i64 a3, .int .i64 a4, .int .i64 a5, .int .i64 a6, .int .i64 a7, .int .i64 a8, .int .i64 a9] 27) = w1 at *
  have HF := Lib.hid (show ∀ w', Grew w1 w' → w'.cell? ⟨w.heap.size, 0, none⟩ = some (.string nm) ∧ w'.cell? ⟨w.heap.size, 1, none⟩ = some (.slice A n c) ∧ w'.cell? ⟨w.heap.size, 2, none⟩ = some (.int .i64 a0) ∧ w'.cell? ⟨w.heap.size, 3, none⟩ = some (.int .i64 a1) ∧ w'.cell? ⟨w.heap.size, 4, none⟩ = some (.int .i64 a2) ∧ w'.cell? ⟨w.heap.size, 5, none⟩ = some (.int .i64 a3) ∧ w'.cell? ⟨w.heap.size, 6, none⟩ = some (.int .i64 a4) ∧ w'.cell? ⟨w.heap.size, 7, none⟩ = some (.int .i64 a5) ∧ w'.cell? ⟨w.heap.size, 8, none⟩ = some (.int .i64 a6) ∧ w'.cell? ⟨w.heap.size, 9, none⟩ = some (.int .i64 a7) ∧ w'.cell? ⟨w.heap.size, 10, none⟩ = some (.int .i64 a8) ∧ w'.cell? ⟨w.heap.size, 11, none⟩ = some (.int .i64 a9) from fun w' g => ⟨(hbx.grew g).cell 0, (hbx.grew g).cell 1, (hbx.grew g).cell 2, (hbx.grew g).cell 3, (hbx.grew g).cell 4, (hbx.grew g).cell 5, (hbx.grew g).cell 6, (hbx.grew g).cell 7, (hbx.grew g).cell 8, (hbx.grew g).cell 9, (hbx.grew g).cell 10, (hbx.grew g).cell 11⟩)
  have HR := Lib.hid (show ∀ w', Grew w1 w' → w'.rangeAt w.heap.size 2 [.int .i64 a0, .int .i64 a1, .int .i64 a2] from fun w' g => Box.rangeN (us := [.string nm, .slice A n c, .int .i64 a0, .int .i64 a1, .int .i64 a2, .int .i64 a3, .int .i64 a4, .int .i64 a5, .int .i64 a6, .int .i64 a7, .int .i64 a8, .int .i64 a9]) (hbx.grew g) 2 _ rfl)
  obtain ⟨c0, c1, c2, c3, c4, c5, c6, c7, c8, c9, c10, c11⟩ := HF.out w1 (Grew.refl w1)
  have HG1 := Lib.hid hG1
  clear hbx hG1
  go_wp2_with fail
  refine (HN.out w1).mono ?_
  rintro e w2 ⟨rfl, k2⟩
  clear c0 c1 c2 c3 c4 c5 c6 c7 c8 c9 c10 c11
  obtain ⟨c0, c1, c2, c3, c4, c5, c6, c7, c8, c9, c10, c11⟩ := HF.out w2 k2
  have hG2 := HG1.out.trans k2
  go_wp2_with fail
  refine (HV.out w2 hG2).mono ?_
  rintro e w3 ⟨rfl, k3⟩
  clear c0 c1 c2 c3 c4 c5 c6 c7 c8 c9 c10 c11
  have k3' := k2.trans k3
  obtain ⟨c0, c1, c2, c3, c4, c5, c6, c7, c8, c9, c10, c11⟩ := HF.out w3 k3'
  have hR := HR.out w3 k3'
  have HG3 := Lib.hid (hG2.trans k3)
  clear hG2 k2 k3 k3' HN HV HF HR HG1
  go_wp2_with (first | (refine wpList_load_mid rfl 25 (.tmp 57) rfl w.heap.size 2 rfl [.int .i64 a0, .int .i64 a1, .int .i64 a2] _ hR Tryz.underlying25 rfl (by kernel_rfl) ?_))
  go_loopw [59] (fun i wr => ∃ (j : Nat), j ≤ 3 ∧ i = .int .i64 (j : Nat) ∧ wr = w3) (fun i _ => 3 - (intOf i).toNat)
  case atStart => exact ⟨0, by omega, rfl, rfl⟩
  case round =>
    obtain ⟨j, hj, rfl, rfl⟩ := hrel
    by_cases hlt : j < 3
    · have hc : j = 0 ∨ j = 1 ∨ j = 2 := by omega
      clear hlt hj
      rcases hc with rfl | rfl | rfl
      · have ix : ∀ w : World, Sem.run Tryz.prog (Instr.index 25 (.agg #[.int .i64 a0, .int .i64 a1, .int .i64 a2]) (.int .i64 ((0 : Nat) : Int))) w = .ok (.int .i64 a0) w := fun w => by kernel_rfl
        have ix' : ∀ w : World, Sem.run Tryz.prog (Instr.index 25 (.agg #[.int .i64 a0, .int .i64 a1, .int .i64 a2]) (.int .i64 0)) w = .ok (.int .i64 a0) w := fun w => by kernel_rfl
        go_wp2_with fail
        go_roundw
        case rel => exact ⟨1, by omega, by go_num, trivial⟩
        case measure => simp [intOf]
      · have ix : ∀ w : World, Sem.run Tryz.prog (Instr.index 25 (.agg #[.int .i64 a0, .int .i64 a1, .int .i64 a2]) (.int .i64 ((1 : Nat) : Int))) w = .ok (.int .i64 a1) w := fun w => by kernel_rfl
        have ix' : ∀ w : World, Sem.run Tryz.prog (Instr.index 25 (.agg #[.int .i64 a0, .int .i64 a1, .int .i64 a2]) (.int .i64 1)) w = .ok (.int .i64 a1) w := fun w => by kernel_rfl
        go_wp2_with fail
        go_roundw
        case rel => exact ⟨2, by omega, by go_num, trivial⟩
        case measure => simp [intOf]
      · have ix : ∀ w : World, Sem.run Tryz.prog (Instr.index 25 (.agg #[.int .i64 a0, .int .i64 a1, .int .i64 a2]) (.int .i64 ((2 : Nat) : Int))) w = .ok (.int .i64 a2) w := fun w => by kernel_rfl
        have ix' : ∀ w : World, Sem.run Tryz.prog (Instr.index 25 (.agg #[.int .i64 a0, .int .i64 a1, .int .i64 a2]) (.int .i64 2)) w = .ok (.int .i64 a2) w := fun w => by kernel_rfl
        go_wp2_with fail
        go_roundw
        case rel => exact ⟨3, by omega, by go_num, trivial⟩
        case measure => simp [intOf]
    · obtain rfl : j = 3 := by omega
      go_wp2_with fail
      go_ret
      exact ⟨rfl, HG3.out⟩
theorem low_of {s : ByteArray} (h : decide (1 ≤ s.size ∧ s.size ≤ 16 ∧ s.data.toList.all (fun b => decide (97 ≤ b.toNat ∧ b.toNat ≤ 122)) = true) = true) : Low s := by
  obtain ⟨h1, h2, h3⟩ := of_decide_eq_true h
  refine ⟨h1, h2, fun i hi => ?_⟩
  have := List.all_eq_true.1 h3 (s[i]'hi) (by
    show s.data[i]'hi ∈ s.data.toList
    simp)
  exact of_decide_eq_true this
theorem nameOf_low (k : Nat) : Low (nameOf k) := by
  unfold nameOf
  split
  · exact low_of (by decide)
  · exact low_of (by decide)
theorem lab4_good {ls : List (ByteArray × ByteArray)} (h : ls ∈ lab4) : GoodL ls := by
  refine ⟨lab4_len h, ?_, ?_⟩
  · simp only [lab4, List.mem_cons, List.not_mem_nil, or_false] at h
    intro p hp
    rcases h with rfl | rfl | rfl | rfl
    · simp at hp
    · obtain rfl := List.mem_singleton.1 hp
      exact ⟨low_of (by decide), low_of (by decide)⟩
    · obtain rfl := List.mem_singleton.1 hp
      exact ⟨low_of (by decide), low_of (by decide)⟩
    · rcases List.mem_cons.1 hp with rfl | hp
      · exact ⟨low_of (by decide), low_of (by decide)⟩
      · obtain rfl := List.mem_singleton.1 hp
        exact ⟨low_of (by decide), low_of (by decide)⟩
  · simp only [lab4, List.mem_cons, List.not_mem_nil, or_false] at h
    intro h1
    rcases h with rfl | rfl | rfl | rfl
    · simp at h1
    · simp at h1
    · simp at h1
    · simp only [List.getElem_cons_zero, List.getElem_cons_succ, ByteArray.toList_eq]
      decide
theorem declK_good (k0 k1 k2 k5 k6 k7 k8 : Nat) (h0 : k0 < 10) (h1 : k1 < 5) (h2 : k2 < 7) (h5 : k5 < 17) (h6 : k6 < 4) (h7 : k7 < 14) (h8 : k8 < 40) : GoodD (declK k0 k1 k2 k5 k6 k7 k8) := by
  constructor <;> simp [declK, upd, x100] <;> omega
end Go.Proofs.YtgkmfblmkfclbaaGreatDoor
namespace Go.Proofs.YtgkmfblmkfclbaaGreatDoor
open Go.RowKit Pl

def spanD (x : Fin 10 → Int) : Nat := (x 8 - x 7 + 1).toNat
theorem spanD_eq {x : Fin 10 → Int} (h : GoodD x) : ((spanD x : Nat) : Int) = x 8 - x 7 + 1 := by
  have := h.last
  unfold spanD; rw [Int.toNat_of_nonneg (by omega)]
theorem spanD_le {x : Fin 10 → Int} (h : GoodD x) : 1 ≤ spanD x ∧ spanD x ≤ 4096 := by
  have := spanD_eq h
  have := h.last
  have := h.span
  omega
theorem span_any (nm : ByteArray) (A : Option Addr) (n c : Nat) (x : Fin 10 → Int) (w : World) (hs : GoodD x) :
    Calls Tryz.prog 48 #[vdecl nm (.slice A n c) x] w fun e w' => e = .returned (.int .i64 (spanD x : Nat)) ∧ Grew w w' := by
  have h1 := hs.first
  have h2 := hs.last
  have h3 := hs.last2
  have HS := Lib.hid (spanD_eq hs)
  have HG : Grew w (w.alloc (.cells #[.string nm, .slice A n c, .int .i64 (x 0), .int .i64 (x 1), .int .i64 (x 2), .int .i64 (x 3), .int .i64 (x 4), .int .i64 (x 5), .int .i64 (x 6), .int .i64 (x 7), .int .i64 (x 8), .int .i64 (x 9)] 27)) := (Grew.refl w).alloc _
  have HG := Lib.hid HG
  clear hs
  unfold vdecl
  go_enter Tryz.func48, Tryz.ntmps48
  go_wp2
  go_ret
  exact ⟨by rw [HS.out]; rfl, HG.out⟩
/- a claim that is valid for the numbers of a declaration -/
structure ValidC (x : Fin 10 → Int) (c : Clm) : Prop where
  first : x 7 ≤ c.1
  upto : c.1 ≤ c.2.1
  last : c.2.1 ≤ x 8
  lo : -1099511627776 ≤ c.2.2.1
  hi : c.2.2.1 ≤ c.2.2.2
  hi2 : c.2.2.2 ≤ 1099511627776
set_option maxHeartbeats 3200000 in
theorem cvalid_any (nm : ByteArray) (A : Option Addr) (n q : Nat) (x : Fin 10 → Int) (c : Clm) (w : World) (h : ValidC x c) :
    Calls Tryz.prog 47 #[vdecl nm (.slice A n q) x, vc c] w fun e w' => e = .returned (.bool true) ∧ Grew w w' := by
  obtain ⟨h1, h2, h3, h4, h5, h6⟩ := h
  have d1 : decide (x 7 ≤ c.1) = true := by simpa using h1
  have d2 : decide (c.1 ≤ c.2.1) = true := by simpa using h2
  have d3 : decide (c.2.1 ≤ x 8) = true := by simpa using h3
  have d4 : decide (-1099511627776 ≤ c.2.2.1) = true := by simpa using h4
  have d5 : decide (c.2.2.1 ≤ c.2.2.2) = true := by simpa using h5
  have d6 : decide (c.2.2.2 ≤ 1099511627776) = true := by simpa using h6
  have HG := Lib.hid (((Grew.refl w).alloc (.cells #[.string nm, .slice A n q, .int .i64 (x 0), .int .i64 (x 1), .int .i64 (x 2), .int .i64 (x 3), .int .i64 (x 4), .int .i64 (x 5), .int .i64 (x 6), .int .i64 (x 7), .int .i64 (x 8), .int .i64 (x 9)] 27)).alloc (.cells #[.int .i64 c.1, .int .i64 c.2.1, .int .i64 c.2.2.1, .int .i64 c.2.2.2] 82))
  have hb1 := ((Box.new w 27 #[.string nm, .slice A n q, .int .i64 (x 0), .int .i64 (x 1), .int .i64 (x 2), .int .i64 (x 3), .int .i64 (x 4), .int .i64 (x 5), .int .i64 (x 6), .int .i64 (x 7), .int .i64 (x 8), .int .i64 (x 9)]).alloc (.cells #[.int .i64 c.1, .int .i64 c.2.1, .int .i64 c.2.2.1, .int .i64 c.2.2.2] 82))
  have hb2 := Box.new (w.alloc (.cells #[.string nm, .slice A n q, .int .i64 (x 0), .int .i64 (x 1), .int .i64 (x 2), .int .i64 (x 3), .int .i64 (x 4), .int .i64 (x 5), .int .i64 (x 6), .int .i64 (x 7), .int .i64 (x 8), .int .i64 (x 9)] 27)) 82 #[.int .i64 c.1, .int .i64 c.2.1, .int .i64 c.2.2.1, .int .i64 c.2.2.2]
  rw [World.size_alloc] at hb2
  unfold vdecl vc cells4
  go_enter Tryz.func47, Tryz.ntmps47
  go_upto_region 1 with fail
  generalize (w.alloc (.cells #[.string nm, .slice A n q, .int .i64 (x 0), .int .i64 (x 1), .int .i64 (x 2), .int .i64 (x 3), .int .i64 (x 4), .int .i64 (x 5), .int .i64 (x 6), .int .i64 (x 7), .int .i64 (x 8), .int .i64 (x 9)] 27)).alloc (.cells #[.int .i64 c.1, .int .i64 c.2.1, .int .i64 c.2.2.1, .int .i64 c.2.2.2] 82) = w1 at *
  have c7 : w1.cell? ⟨w.heap.size, 9, none⟩ = some (.int .i64 (x 7)) := hb1.cell 9
  have c8 : w1.cell? ⟨w.heap.size, 10, none⟩ = some (.int .i64 (x 8)) := hb1.cell 10
  have e0 : w1.cell? ⟨w.heap.size + 1, 0, none⟩ = some (.int .i64 c.1) := hb2.cell 0
  have e1 : w1.cell? ⟨w.heap.size + 1, 1, none⟩ = some (.int .i64 c.2.1) := hb2.cell 1
  have e2 : w1.cell? ⟨w.heap.size + 1, 2, none⟩ = some (.int .i64 c.2.2.1) := hb2.cell 2
  have e3 : w1.cell? ⟨w.heap.size + 1, 3, none⟩ = some (.int .i64 c.2.2.2) := hb2.cell 3
  clear hb1 hb2
  go_wp2_with fail
  go_ret
  exact ⟨rfl, HG.out⟩
end Go.Proofs.YtgkmfblmkfclbaaGreatDoor
