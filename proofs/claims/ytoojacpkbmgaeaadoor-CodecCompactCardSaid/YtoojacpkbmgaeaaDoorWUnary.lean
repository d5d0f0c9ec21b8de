/- The writer of bits: a number in unary; the bytes at the end. -/
import Derived.Test.YtoojacpkbmgaeaaDoorWBits
import Derived.WalkSpells
namespace Go.Proofs.YtoojacpkbmgaeaaDoor
open Go.RowKit Pl

set_option maxHeartbeats 800000 in
theorem wunary_any (g base : Nat) (v : Value) (s : List Bool) (n : Nat) (w : World) (h : BW w base g v s) (hs : s.length < 1099511600000) (hb : base ≤ w.heap.size) (hn : n ≤ 64) :
    Calls Tryd.prog 102 #[.pointer (some ⟨g, 0, none⟩), .int .i64 (n : Nat)] w fun e w' => e = .returned (.tuple #[]) ∧
      ∃ v', BW w' base g v' (s ++ un n) ∧ KeepsW g v w w' ∧ Moved w v v' := by
  have h1 : ¬ ((n : Int) < 0) := by omega
  have h2 : ¬ ((65536 : Int) < (n : Int)) := by omega
  go_enter Tryd.func102, Tryd.ntmps102
  go_wp2_with fail
  go_loopw [7] (fun i wr => ∃ (j : Nat) (v' : Value), j ≤ n ∧ i = .int .i64 j ∧ BW wr base g v' (s ++ List.replicate j true) ∧ KeepsW g v w wr ∧ Moved w v v') (fun i _ => n - (intOf i).toNat)
  case atStart => exact ⟨0, v, by omega, rfl, by simpa using h, Keeps.refl _ _, Moved.refl _ _⟩
  case round =>
    obtain ⟨j, v', hj, rfl, hB, hK, hM⟩ := hrel
    have hbW : base ≤ wr.heap.size := Nat.le_trans hb hK.size
    have hlen : (s ++ List.replicate j true).length < 1099511627776 := by simp; omega
    by_cases hlt : j < n
    · go_wp2_with (go_at_call 124; refine (bit_any g base v' _ true _ hB hlen hbW).mono ?_; rintro e w2 ⟨rfl, v2, k1, k2, k3⟩)
      go_roundw
      case rel => exact ⟨j + 1, v2, by omega, by go_num, by rw [List.replicate_succ', ← List.append_assoc]; exact k1, hK.trans hM k2, hM.trans hK.size k3⟩
      case measure => simp [intOf]; omega
    · obtain rfl : j = n := by omega
      go_wp2_with (go_at_call 124; refine (bit_any g base v' _ false _ hB hlen hbW).mono ?_; rintro e w2 ⟨rfl, v2, k1, k2, k3⟩)
      go_end0
      exact ⟨rfl, v2, by unfold un; rw [← List.append_assoc]; exact k1, hK.trans hM k2, hM.trans hK.size k3⟩

theorem Mine.empty (w : World) (e : TypeId) : Mine (w.alloc (.cells #[] e)) w.heap.size e (.slice (some ⟨w.heap.size, 0, none⟩) 0 0) [] :=
  Mine.mk' (xs := []) (Nat.le_refl _) (Box.new w e #[]) (by simp) (by unfold maxLen; omega) rfl rfl
theorem one_vb (bs : List Nat) : ∀ u ∈ bs.map vb, u.oneCell' = true := by
  intro u hu
  obtain ⟨x, _, rfl⟩ := List.mem_map.1 hu
  rfl
/- slices.Clone at bytes: nil stays nil; else a row of the call's own -/
set_option maxHeartbeats 800000 in
set_option maxRecDepth 100000 in
theorem clone_any (v : Value) (bs : List Nat) (w : World) (h : Rd w w.heap.size v (bs.map vb)) (hs : bs.length ≤ 1099511627776) :
    Calls Tryd.prog 86 #[v] w fun e w' => ∃ v', e = .returned v' ∧ Mine w' w.heap.size 5 v' (bs.map vb) ∧ Grew w w' := by
  have hnil := fun (W : World) (a : Option Addr) (n c n' c' : Nat) => Lib.run_eql_slice_nil (P := Tryd.prog) W 31 5 a n c n' c' Tryd.underlying31
  have h1 := h.alloc (Nat.le_refl _) (.cells #[] 5)
  obtain ⟨A, n, c, rfl, hn, hc⟩ := h.form
  have HN := Lib.hid hn
  clear hn
  rcases A with _ | ad
  · obtain rfl : bs = [] := by simpa using h.nil_of
    clear h1
    go_enter Tryd.func86, Tryd.ntmps86
    go_wp2_with fail
    go_ret
    exact ⟨_, rfl, Mine.nil _ _ _, Grew.refl _⟩
  · go_enter Tryd.func86, Tryd.ntmps86
    go_wp2_with (at_builtin; refine app_any slU8 rfl (.tmp 5) (.tmp 6) rfl rfl (Mine.empty w _) rfl h1 (one_vb bs) (by simp; omega) (by simp) ?k)
    case k =>
    intro A m cap w1 hm hown hk hr
    go_wp2
    go_ret
    refine ⟨_, rfl, by simpa using hown, ?_⟩
    exact ((Keeps.refl _ w).alloc _).then_ hk (fun i hi e => by
      have : w.heap.size = i := by simpa [Value.ownBlock] using e
      omega)

set_option maxHeartbeats 800000 in
theorem wdone_any (g base : Nat) (v : Value) (s : List Bool) (w : World) (h : BW w base g v s) (hs : s.length < 1099511627776) :
    Calls Tryd.prog 68 #[.pointer (some ⟨g, 0, none⟩)] w fun e w' => ∃ v', e = .returned v' ∧ Mine w' w.heap.size 5 v' ((pack s).map vb) ∧ Grew w w' := by
  have c0 := h.1.cell 0
  have hr := h.2.rd
  have hl : (pack s).length ≤ 1099511627776 := by rw [pack_length]; omega
  obtain ⟨A, n, cap, rfl⟩ : ∃ A n cap, v = .slice A n cap := by
    obtain ⟨A, c, rfl, _⟩ := hr
    exact ⟨_, _, _, rfl⟩
  simp only [List.getElem?_toArray, List.getElem?_cons_zero] at c0
  have HC := Lib.hid (clone_any _ _ w hr hl)
  clear hr hl h
  go_enter Tryd.func68, Tryd.ntmps68
  go_wp2_with (go_at_call 86; refine HC.out.mono ?_; rintro e w2 ⟨v2, rfl, k1, k2⟩)
  go_ret
  exact ⟨_, rfl, k1, k2⟩
end Go.Proofs.YtoojacpkbmgaeaaDoor
