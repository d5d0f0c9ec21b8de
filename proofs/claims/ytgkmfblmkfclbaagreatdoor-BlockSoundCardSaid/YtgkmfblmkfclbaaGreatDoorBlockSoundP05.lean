/- codec.write: the code of a number. codec.Ints: the bytes of a list of numbers. What every law of the seat shares at its door: the tables, a world for the witness, and what an argument that came in reads as. How long an argument that came in may be. intervalmonref01: the comparisons of slices. The reference: copies of slices, numbers, streams of bits. The reference: streams of bits. -/
import Derived.Test.YtgkmfblmkfclbaaGreatDoorBlockSoundP04
import Derived.Test.YtgkmfblmkfclbaaGreatDoorCards
import Derived.Test.YtgkmfblmkfclbaaGreatDoorTie
import Derived.WalkKit
import Derived.ProofKit
import Derived.OpenShut
import Derived.ShutString
import Derived.ChangeOld
import Derived.Below
import Derived.Deep.DeepHandedRow
import Derived.Lib.LaidTab
import Derived.SizedLaws
import Derived.Deep.QuietTactic
import Derived.BigQuiet
namespace Go.Proofs.YtgkmfblmkfclbaaGreatDoor
open Go.RowKit Pl

/- the table of widths, below block B -/
def Tab (w : World) (B : Nat) : Prop := 1 < B ∧ ∀ i, i < 6 → w.cell? ⟨1, i, none⟩ = some (.int .i64 (width i : Nat))
theorem Tab.keep {w w' : World} {B : Nat} {S : Nat → Prop} (h : Tab w B) (hk : Keeps S w w') (hs : ∀ i, i < B → ¬ S i) : Tab w' B :=
  ⟨h.1, fun i hi => (World.cell?_of_block (hk.block 1 (World.block_lt_of_cell? w ⟨1, i, none⟩ (h.2 i hi)) (hs _ h.1))).trans (h.2 i hi)⟩
theorem Tab.grew {w w' : World} {B : Nat} (h : Tab w B) (hk : Grew w w') : Tab w' B := h.keep hk fun _ _ e => e
theorem Tab.keepW {w w' : World} {B base g : Nat} {v : Value} {s : List Bool} (h : Tab w B) (hk : KeepsW g v w w') (hb : BW w base g v s) (hg : base ≤ g) (hB : B ≤ base) : Tab w' B :=
  h.keep hk fun i hi e => by
    rcases e with rfl | e
    · omega
    · have := (hb.2.lt i e).1; omega

theorem fits_yes (z k : Nat) (w : World) (_ : z < 18446744073709551616) (hk : k ≤ 64) (h : z < 2 ^ k) :
    Calls Tryz.prog 80 #[.int .u64 (z : Nat), .int .i64 (k : Nat)] w fun e w' => e = .returned (.bool true) ∧ w = w' := by
  have hd : z / 2 ^ k = 0 := Nat.div_eq_of_lt h
  by_cases h64 : 64 ≤ k
  · have ht : decide ((64 : Int) ≤ (k : Int)) = true := by simp; omega
    clear hd h
    go_enter Tryz.func80, Tryz.ntmps80
    go_wp2
    go_ret
    exact ⟨rfl, rfl⟩
  · have ht : decide ((64 : Int) ≤ (k : Int)) = false := by simp; omega
    have hq : ((z : Int) / 2 ^ k == 0) = true := by
      rw [beq_iff_eq]
      have : ((z : Int) / 2 ^ k) = ((z / 2 ^ k : Nat) : Int) := by rw [Int.natCast_ediv, Int.natCast_pow]; rfl
      rw [this, hd]; rfl
    clear hd h
    go_enter Tryz.func80, Tryz.ntmps80
    go_wp2
    go_ret
    exact ⟨rfl, rfl⟩
theorem fits_no (z k : Nat) (w : World) (_ : z < 18446744073709551616) (hk : k < 64) (h : ¬ z < 2 ^ k) :
    Calls Tryz.prog 80 #[.int .u64 (z : Nat), .int .i64 (k : Nat)] w fun e w' => e = .returned (.bool false) ∧ w = w' := by
  have ht : decide ((64 : Int) ≤ (k : Int)) = false := by simp; omega
  have hq : ((z : Int) / 2 ^ k == 0) = false := by
    rw [beq_eq_false_iff_ne]
    have : ((z : Int) / 2 ^ k) = ((z / 2 ^ k : Nat) : Int) := by rw [Int.natCast_ediv, Int.natCast_pow]; rfl
    rw [this]
    have : 0 < z / 2 ^ k := Nat.div_pos (by omega) (Nat.two_pow_pos _)
    omega
  clear h
  go_enter Tryz.func80, Tryz.ntmps80
  go_wp2
  go_ret
  exact ⟨rfl, rfl⟩

theorem xor_ones (a : Nat) (ha : a < 18446744073709551616) : a ^^^ 18446744073709551615 = 18446744073709551615 - a := by
  have h1 : (BitVec.ofNat 64 a ^^^ BitVec.allOnes 64).toNat = a ^^^ 18446744073709551615 := by
    rw [BitVec.toNat_xor, BitVec.toNat_ofNat, BitVec.toNat_allOnes, Nat.mod_eq_of_lt (by omega)]
  have h2 : (BitVec.ofNat 64 a ^^^ BitVec.allOnes 64).toNat = 18446744073709551615 - a := by
    rw [BitVec.xor_allOnes, BitVec.toNat_not, BitVec.toNat_ofNat, Nat.mod_eq_of_lt (by omega)]
  exact h1.symm.trans h2
theorem zig_bits (n : Int) (h : I64 n) : bits BinOp.xor IntKind.u64 (IntKind.u64.wrap (IntKind.u64.wrap n * 2)) (IntKind.u64.wrap (n / 9223372036854775808)) = ((zig n : Nat) : Int) := by
  obtain ⟨h1, h2⟩ := h
  simp only [IntKind.wrap_u64]
  by_cases h0 : 0 ≤ n
  · have e1 : (n % 18446744073709551616 * 2) % 18446744073709551616 = (((2 * n).toNat : Nat) : Int) := by omega
    have e2 : n / 9223372036854775808 % 18446744073709551616 = ((0 : Nat) : Int) := by omega
    rw [e1, e2, u64_xor_nat _ _ (by omega) (by omega), Nat.xor_zero]
    unfold zig; rw [if_pos h0]
  · have e1 : (n % 18446744073709551616 * 2) % 18446744073709551616 = (((2 * n + 18446744073709551616).toNat : Nat) : Int) := by omega
    have e2 : n / 9223372036854775808 % 18446744073709551616 = ((18446744073709551615 : Nat) : Int) := by omega
    rw [e1, e2, u64_xor_nat _ _ (by omega) (by omega), xor_ones _ (by omega)]
    unfold zig; rw [if_neg h0]; omega
set_option maxHeartbeats 800000 in
theorem write_any (g base : Nat) (v : Value) (s : List Bool) (n : Int) (w : World) (h : BW w base g v s) (hg : base ≤ g) (ht : Tab w base) (hs : s.length < 1099511500000) (hb : base ≤ w.heap.size) (hn : I64 n) :
    Calls Tryz.prog 61 #[.pointer (some ⟨g, 0, none⟩), .int .i64 n] w fun e w' => e = .returned (.tuple #[]) ∧
      ∃ v', BW w' base g v' (s ++ code n) ∧ KeepsW g v w w' ∧ Moved w v v' := by
  have hzb := zig_bits n hn
  have hz := zig_lt hn
  have hil := idx_le (zig n)
  obtain ⟨hn1, hn2⟩ := hn
  unfold code
  have HZ := Lib.hid hz
  clear hz
  generalize zig n = z at *
  have hj5 : ∀ j, j ≤ 5 → (z < 2 ^ width j ↔ idx z ≤ j) := by
    intro j hj
    have hz := HZ.out
    have : j = 0 ∨ j = 1 ∨ j = 2 ∨ j = 3 ∨ j = 4 ∨ j = 5 := by omega
    rcases this with rfl | rfl | rfl | rfl | rfl | rfl <;> simp [width] <;> unfold idx <;> (repeat' split) <;> omega
  have HJ := Lib.hid hj5
  have HT := Lib.hid ht
  clear hj5 ht
  go_enter Tryz.func61, Tryz.ntmps61
  go_wp2_with fail
  go_loop [5] (fun i => ∃ j : Nat, j ≤ idx z ∧ i = .int .i64 j) (fun i => idx z - (intOf i).toNat)
  case atStart => exact ⟨0, by omega, rfl⟩
  case round =>
    obtain ⟨j, hj, rfl⟩ := hrel
    have hc := HT.out.2 j (by omega)
    have hw64 := width_le j
    by_cases hlt : j < idx z
    · have hno : ¬ z < 2 ^ width j := by rw [HJ.out j (by omega)]; omega
      have hw : width j < 64 := by
        rcases Nat.lt_or_ge (width j) 64 with h | h
        · exact h
        · exfalso
          have : width j = 64 := by omega
          rw [this] at hno
          have := HZ.out
          omega
      have HF := Lib.hid (fits_no z (width j) w HZ.out hw hno)
      clear hno
      go_wp2_with (go_at_call 80; refine HF.out.mono ?_; rintro e w' ⟨rfl, rfl⟩)
      go_round
      case rel => exact ⟨j + 1, by omega, by go_num⟩
      case measure => simp [intOf]; omega
    · obtain rfl : j = idx z := by omega
      have hyes : z < 2 ^ width (idx z) := by rw [HJ.out _ hil]; omega
      have HF := Lib.hid (fits_yes z (width (idx z)) w HZ.out hw64 hyes)
      clear hyes
      go_wp2_with (go_at_call 80; refine HF.out.mono ?_; rintro e w' ⟨rfl, rfl⟩)
      refine (wunary_any g base v s (idx z) w h (by omega) hb (by omega)).mono ?_
      rintro e w2 ⟨rfl, v2, k1, k2, k3⟩
      have hc2 := (HT.out.keepW k2 h hg (Nat.le_refl _)).2 (idx z) (by omega)
      have hb2 : base ≤ w2.heap.size := Nat.le_trans hb k2.size
      have hl2 : (s ++ un (idx z)).length < 1099511627000 := by simp [un]; omega
      have HW := Lib.hid (wbits_any g base v2 _ z (width (idx z)) w2 k1 hl2 hb2 HZ.out hw64)
      clear hl2 hb2
      go_wp2_with (go_at_call 82; refine HW.out.mono ?_; rintro e w3 ⟨rfl, v3, m1, m2, m3⟩)
      go_end0
      exact ⟨rfl, v3, by rw [← List.append_assoc]; exact m1, k2.trans k3 m2, k3.trans k2.size m3⟩
end Go.Proofs.YtgkmfblmkfclbaaGreatDoor
namespace Go.Proofs.YtgkmfblmkfclbaaGreatDoor
open Go.RowKit Pl

def vi (x : Int) : Value := .int .i64 x
theorem wrap_sec (x a b : Int) : wrap64 (wrap64 (x - wrap64 (2 * a)) + b) = wrap64 (x - 2 * a + b) := by unfold wrap64; omega

theorem KeepsW.grew_of {w0 w w' : World} {g : Nat} {v : Value} {s : List Bool} (h0 : Grew w0 w) (hk : KeepsW g v w w') (hb : BW w w0.heap.size g v s) (hg : w0.heap.size ≤ g) : Grew w0 w' :=
  Keeps.then_ h0 hk fun i hi e => by
    rcases e with rfl | e
    · omega
    · have := (hb.2.lt i e).1; omega

end Go.Proofs.YtgkmfblmkfclbaaGreatDoor
namespace Go.Proofs.YtgkmfblmkfclbaaGreatDoor
open Go.ChangeShapes Go.WideShapes Go.ChangeAt Go.RowKit Pl
open Go.ChangeMaps (open_string shut_string)

theorem own : ownKnob Tryz.prog.godebug = none := by kernel_rfl
theorem laidOut : laidOutB Tryz.prog = true := by kernel_rfl
theorem gTab : Tryz.prog.globalNamed "intervalmon/codec.widths" = some 1 := by kernel_rfl
theorem gTabType : (Tryz.prog.globals[1]?).map (·.type) = some 138 := by kernel_rfl
theorem cellsTab : Tryz.prog.cellsOf 138 = 6 := by kernel_rfl
theorem cellsInt : Tryz.prog.cellsOf 3 = 1 := by kernel_rfl

theorem cell_lt {w : World} {a : Addr} {v : Value} (h : w.cell? a = some v) : a.block < w.heap.size := by
  rcases Nat.lt_or_ge a.block w.heap.size with h1 | h1
  · exact h1
  · simp [World.cell?, Array.getElem?_eq_none h1] at h
/- what a list of laid variables that begins with the widths gives -/
theorem widths_of {W : World} {rest : List (String × DataW Unit)} (h : laidMet Tryz.prog (("intervalmon/codec.widths", Rows.laid_intervalmon_codec_widths) :: rest) W) : Tab W W.heap.size := by
  have ht : Lib.TabIs Tryz.prog W "intervalmon/codec.widths" .i64 [0, 4, 8, 16, 32, 64] :=
    Lib.tabIs_of_head gTab gTabType Tryz.underlying138 Tryz.underlying3 cellsInt cellsTab h
  have hc : ∀ i, i < 6 → W.cell? ⟨1, i, none⟩ = some (.int .i64 (width i : Nat)) := by
    intro i hi
    rw [ht.cell gTab i (by simpa using hi)]
    match i, hi with
    | 0, _ => rfl
    | 1, _ => rfl
    | 2, _ => rfl
    | 3, _ => rfl
    | 4, _ => rfl
    | 5, _ => rfl
  exact ⟨cell_lt (hc 0 (by omega)), hc⟩

/- a world for a witness: the settled one, the tables holding what their initialisers lay -/
def relay (cs : Array Value) : Obj → Obj
  | .cells _ t frozen => .cells cs t frozen
  | o => o
noncomputable def laidWorld (os : Os) : World :=
  { World.holding Tryz.prog os ⟨#[], #[], []⟩ with heap := ((World.holding Tryz.prog os ⟨#[], #[], []⟩).heap.modify 1 (relay #[.int .i64 0, .int .i64 4, .int .i64 8, .int .i64 16, .int .i64 32, .int .i64 64])).modify 0 (relay #[.int .i64 0, .int .i64 0, .int .i64 1, .int .i64 1073741824, .int .i64 0, .int .i64 1073741824, .int .i64 1, .int .i64 4096, .int .i64 0, .int .i64 1048576]) }

/- a slice of integers that came in: nil, or a row of cells, each fitting its kind -/
def IsRow (k : IntKind) (w : World) (a : Option Addr) (len cap : Nat) (zs : List Int) : Prop :=
  (a = none ∧ len = 0 ∧ cap = 0 ∧ zs = []) ∨
  ∃ x, a = some x ∧ len ≤ cap ∧ cap ≤ maxLen ∧ zs.length = cap ∧ (∀ i, i < zs.length → w.cell? (x.add i) = some (.int k (zs.getD i 0))) ∧ ∀ n ∈ zs, (Lit.int k n).wf = true

theorem i64_of_wf {n : Int} (h : (Lit.int .i64 n).wf = true) : I64 n := by
  simpa [Lit.wf, I64, IntKind.min, IntKind.max, IntKind.signed, IntKind.bits] using h
theorem u8_of_wf {n : Int} (h : (Lit.int .u8 n).wf = true) : 0 ≤ n ∧ n < 256 := by
  have : 0 ≤ n ∧ n ≤ 255 := by simpa [Lit.wf, IntKind.min, IntKind.max, IntKind.signed, IntKind.bits] using h
  omega

theorem IsRow.rd_ {k : IntKind} {w : World} {a : Option Addr} {len cap : Nat} {zs : List Int} (h : IsRow k w a len cap zs) :
    Rd w w.heap.size (.slice a len cap) ((zs.take len).map fun n => .int k n) := by
  rcases h with ⟨rfl, rfl, rfl, rfl⟩ | ⟨x, rfl, hl, _, hz, hc, _⟩
  · exact ⟨none, 0, rfl, Nat.le_refl _, fun h => absurd h (by simp)⟩
  · have hn : ((zs.take len).map fun n => Value.int k n).length = len := by simp; omega
    refine ⟨some x, cap, by rw [hn], by rw [hn]; exact hl, fun h0 => ⟨x, rfl, ?_, fun j u hu => ?_⟩⟩
    · have := cell_lt (hc 0 (by omega))
      rwa [block_add] at this
    · have hj : j < len := by rw [← hn]; exact (List.getElem?_eq_some_iff.1 hu).1
      rw [hc j (by omega), ← hu]
      have hjz : j < zs.length := by omega
      simp [List.getD, hj, hjz]

/- integers -/
theorem IsRow.ints {w : World} {a : Option Addr} {len cap : Nat} {zs : List Int} (h : IsRow .i64 w a len cap zs) :
    ∃ ls : List Int, Rd w w.heap.size (.slice a len cap) (ls.map vi) ∧ ∀ x ∈ ls, I64 x := by
  refine ⟨zs.take len, h.rd_, fun x hx => ?_⟩
  have hx := List.mem_of_mem_take hx
  rcases h with ⟨_, _, _, rfl⟩ | ⟨_, _, _, _, _, _, hw⟩
  · simp at hx
  · exact i64_of_wf (hw x hx)
/- bytes -/
theorem IsRow.bytes {w : World} {a : Option Addr} {len cap : Nat} {zs : List Int} (h : IsRow .u8 w a len cap zs) :
    ∃ bs : List Nat, Rd w w.heap.size (.slice a len cap) (bs.map vb) ∧ Bytes bs := by
  have hw : ∀ x ∈ zs.take len, 0 ≤ x ∧ x < 256 := by
    intro x hx
    have hx := List.mem_of_mem_take hx
    rcases h with ⟨_, _, _, rfl⟩ | ⟨_, _, _, _, _, _, hw⟩
    · simp at hx
    · exact u8_of_wf (hw x hx)
  refine ⟨(zs.take len).map Int.toNat, ?_, fun x hx => ?_⟩
  · have := h.rd_
    have e : ((zs.take len).map fun n => Value.int .u8 n) = ((zs.take len).map Int.toNat).map vb := by
      rw [List.map_map]
      refine List.map_congr_left fun n hn => ?_
      have := (hw n hn).1
      simp [vb, Int.toNat_of_nonneg this]
    rwa [e] at this
  · obtain ⟨n, hn, rfl⟩ := List.mem_map.1 hx
    have := hw n hn
    omega

/- a slice of integers that came in, opened -/
theorem row_of {H : Type} {enc : TypeId × Value → H} {k : IntKind} {W : World} {t e : TypeId} {a : Option Addr} {len cap : Nat} {d : DataW H} {p : List MemPlace}
    (ht : Tryz.prog.underlying t = some (.slice e)) (he : Tryz.prog.underlying e = some (.int k)) (hce : Tryz.prog.cellsOf e = 1)
    (h : DataW.Trod enc Tryz.prog W 0 (fun _ => true) true t (.slice a len cap) d p) : ∃ zs, IsRow k W a len cap zs := by
  obtain ⟨fuel, hf⟩ := h
  rcases open_ints ht he hce hf with ⟨hcs, _⟩ | ⟨x, l, c, zs, hcs, _, hl, hm, hz, _, hcell, hwz⟩
  · simp [Value.cells] at hcs
    obtain ⟨rfl, rfl, rfl⟩ := hcs
    exact ⟨[], .inl ⟨rfl, rfl, rfl, rfl⟩⟩
  · simp [Value.cells] at hcs
    obtain ⟨rfl, rfl, rfl⟩ := hcs
    exact ⟨zs, .inr ⟨_, rfl, hl, hm, by simpa using hz, hcell, hwz⟩⟩
end Go.Proofs.YtgkmfblmkfclbaaGreatDoor
namespace Go.Proofs.YtgkmfblmkfclbaaGreatDoor
open Go.ChangeShapes Go.WideShapes Go.ChangeAt Go.RowKit Pl

theorem Rd.len_eq {w : World} {B : Nat} {A : Option Addr} {n c : Nat} {xs : List Value} (h : Rd w B (.slice A n c) xs) : n = xs.length := by
  obtain ⟨A', c', hv, _⟩ := h
  injection hv
theorem bytesInt : Tryz.prog.bytesOf 3 = 8 := by kernel_rfl
theorem ints_len {H : Type} {enc : TypeId × Value → H} {W : World} {a : Option Addr} {len cap : Nat} {d : DataW H} {p : List MemPlace} {ts : List TypeId} {ds : List (DataW H)} {ls : List Int}
    (h : DataW.Trod enc Tryz.prog W 0 (fun _ => true) true 22 (.slice a len cap) d p) (hsz : (DataW.weightsEach Tryz.prog ts ds).all (· ≤ reachBytes) = true)
    (j : Nat) (hj : ts[j]? = some 22) (hd : ds[j]? = some d) (hr : Rd W W.heap.size (.slice a len cap) (ls.map vi)) : ls.length ≤ 1000000000000000 := by
  have hl := hr.len_eq
  rw [List.length_map] at hl
  rw [← hl]
  obtain ⟨fuel, hf⟩ := h
  rcases open_ints Tryz.underlying22 Tryz.underlying3 (by kernel_rfl) hf with ⟨hcs, _⟩ | ⟨x, l, c, zs, hcs, _, hl, hm, hz, hx, _⟩
  · simp [Value.cells] at hcs
    omega
  · simp [Value.cells] at hcs
    obtain ⟨rfl, rfl, rfl⟩ := hcs
    simp only [Prod.mk.injEq] at hx
    obtain ⟨rfl, -⟩ := hx
    have := sized_slice hsz hj hd Tryz.underlying22
    rw [bytesInt] at this
    have hl1 : (lits (H := H) .i64 (zs.take len)).length = len := by
      simp [lits]
      simp at hz
      omega
    have hb := reachBytes_lt
    rw [hl1] at this
    omega
end Go.Proofs.YtgkmfblmkfclbaaGreatDoor
namespace Go.Proofs.YtgkmfblmkfclbaaGreatDoor
open Go.RowKit Pl

theorem take_eq_step {α : Type} {xs ys : List α} {j : Nat} (h : xs.take j = ys.take j) (hx : xs[j]? = ys[j]?) : xs.take (j + 1) = ys.take (j + 1) := by
  rw [List.take_add_one, List.take_add_one, h, hx]
theorem getElem?_take_ne {α : Type} {xs ys : List α} {j : Nat} (h : xs[j]? ≠ ys[j]?) : xs ≠ ys := fun e => h (by rw [e])
theorem eq_of_take {α : Type} {xs ys : List α} {n : Nat} (hx : xs.length ≤ n) (hy : ys.length ≤ n) (h : xs.take n = ys.take n) : xs = ys := by
  rwa [List.take_of_length_le hx, List.take_of_length_le hy] at h

set_option maxHeartbeats 1600000 in
theorem sameBytes_any (v u : Value) (xs ys : List Nat) (w : World) (h : Rd w w.heap.size v (xs.map vb)) (k : Rd w w.heap.size u (ys.map vb)) (hl : xs.length ≤ 1099511627776) (hl' : ys.length ≤ 1099511627776) :
    Calls Tryz.prog 27 #[v, u] w fun e w' => e = .returned (.bool (decide (xs = ys))) ∧ ∃ n, w' = w.drewN n := by
  obtain ⟨A, n, c, rfl, hn, hc⟩ := h.form
  obtain ⟨B, n', d, rfl, hn', hd⟩ := k.form
  rw [List.length_map] at hn hn'
  have hnl : n ≤ 1099511627776 := by omega
  have hnl' : n' ≤ 1099511627776 := by omega
  have HN := Lib.hid hn
  have HN' := Lib.hid hn'
  by_cases hne : n ≠ n'
  · have t0 : ((n : Int) != (n' : Int)) = true := by rw [bne_iff_ne]; omega
    have hD : decide (xs = ys) = false := by
      rw [decide_eq_false_iff_not]
      rintro rfl
      omega
    have HD := Lib.hid hD
    clear hn hn' hne hD
    go_enter Tryz.func27, Tryz.ntmps27
    go_wp2_with fail
    go_ret
    exact ⟨by rw [HD.out]; rfl, 0, rfl⟩
  obtain rfl : n = n' := by omega
  clear hn hn' hne
  have t0 : ((n : Int) != (n : Int)) = false := by simp
  go_enter Tryz.func27, Tryz.ntmps27
  go_wp2_with fail
  go_loopw [5] (fun i wr => ∃ (j m : Nat), j ≤ n ∧ i = .int .i64 j ∧ wr = w.drewN m ∧ xs.take j = ys.take j) (fun i _ => n - (intOf i).toNat)
  case atStart => exact ⟨0, 0, by omega, rfl, rfl, by simp⟩
  case round =>
    obtain ⟨j, m, hj, rfl, rfl, htake⟩ := hrel
    have HTK := Lib.hid htake
    clear htake
    by_cases hlt : j < n
    · have hjx : j < xs.length := by rw [← HN.out]; exact hlt
      have hjy : j < ys.length := by rw [← HN'.out]; exact hlt
      obtain ⟨ad, u1, rfl, hadb, hu, hcell⟩ := h.at_ (j := j) (by rw [List.length_map]; exact hjx)
      obtain ⟨ad2, u2, rfl, hadb2, hu2, hcell2⟩ := k.at_ (j := j) (by rw [List.length_map]; exact hjy)
      obtain rfl : vb xs[j] = u1 := by
        rw [List.getElem?_map, List.getElem?_eq_getElem hjx] at hu
        injection hu
      obtain rfl : vb ys[j] = u2 := by
        rw [List.getElem?_map, List.getElem?_eq_getElem hjy] at hu2
        injection hu2
      unfold vb at hcell hcell2
      clear hu hu2
      by_cases hxy : xs[j] = ys[j]
      · have hstep : xs.take (j + 1) = ys.take (j + 1) := take_eq_step HTK.out (by rw [List.getElem?_eq_getElem hjx, List.getElem?_eq_getElem hjy, hxy])
        have HS := Lib.hid hstep
        rw [← hxy] at hcell2
        clear hstep hxy
        generalize xs[j] = x at *
        clear hjx hjy
        have tx : ((x : Int) != (x : Int)) = false := by simp
        go_wp2_with fail
        go_quiet (fail)
        go_wp2_with fail
        go_roundw
        case rel => exact ⟨j + 1, _, by omega, by go_num, rfl, HS.out⟩
        case measure => simp [intOf]; omega
      · have hD : decide (xs = ys) = false := by
          rw [decide_eq_false_iff_not]
          rintro rfl
          exact hxy rfl
        have HD := Lib.hid hD
        clear hD
        generalize xs[j] = x at *
        generalize ys[j] = y at *
        have tx : ((x : Int) != (y : Int)) = true := by rw [bne_iff_ne]; omega
        clear hxy hjx hjy
        go_wp2_with fail
        go_quiet (fail)
        go_wp2_with fail
        go_ret
        exact ⟨by rw [HD.out]; rfl, _, World.drewN_drewN _ _ _⟩
    · have hD : decide (xs = ys) = true := by
        rw [decide_eq_true_eq]
        refine eq_of_take (n := j) ?_ ?_ HTK.out
        · rw [← HN.out]; omega
        · rw [← HN'.out]; omega
      have HD := Lib.hid hD
      clear hD
      go_wp2_with fail
      go_ret
      exact ⟨by rw [HD.out]; rfl, _, rfl⟩

end Go.Proofs.YtgkmfblmkfclbaaGreatDoor
namespace Go.Proofs.YtgkmfblmkfclbaaGreatDoor
open Go.RowKit Pl

def vbo (b : Bool) : Value := .bool b
theorem slInt : SlT Tryz.prog 22 3 8 (.int .i64 0) := ⟨Tryz.underlying22, by kernel_rfl, rfl, by decide⟩
theorem one_vi (bs : List Int) : ∀ u ∈ bs.map vi, u.oneCell' = true := by
  intro u hu
  obtain ⟨x, _, rfl⟩ := List.mem_map.1 hu
  rfl
theorem one_vbo (bs : List Bool) : ∀ u ∈ bs.map vbo, u.oneCell' = true := by
  intro u hu
  obtain ⟨x, _, rfl⟩ := List.mem_map.1 hu
  rfl
theorem Rd.take {w : World} {B : Nat} {A : Option Addr} {n c : Nat} {xs : List Value} (h : Rd w B (.slice A n c) xs) {m : Nat} (hm : m ≤ xs.length) : Rd w B (.slice A m c) (xs.take m) := by
  obtain ⟨A', c', hv, hc, hx⟩ := h
  injection hv with hA _ hcc
  subst hA hcc
  have hl : (xs.take m).length = m := by rw [List.length_take]; omega
  refine ⟨A, c, by rw [hl], by omega, fun h0 => ?_⟩
  obtain ⟨ad, rfl, hb, hcell⟩ := hx (by omega)
  refine ⟨ad, rfl, hb, fun j u hu => hcell j u ?_⟩
  rw [List.getElem?_take] at hu
  split at hu
  · exact hu
  · cases hu

theorem ret_int {k : IntKind} {a b : Int} (h : a = b) : Ending.returned (.int k a) = .returned (.int k b) := by rw [h]
/- n modulo most, never below 0 -/
def arnd (n : Int) (m : Nat) : Nat := (if n < 0 then -(n + 1) else n).toNat % m
theorem arnd_lt (n : Int) (m : Nat) (h : 0 < m) : arnd n m < m := Nat.mod_lt _ h
theorem around_any (n : Int) (m : Nat) (w : World) (hn : I64 n) (hm : 0 < m) (hm2 : m ≤ 9223372036854775807) :
    Calls Tryz.prog 8 #[.int .i64 n, .int .i64 (m : Nat)] w fun e w' => e = .returned (.int .i64 (arnd n m : Nat)) ∧ w = w' := by
  obtain ⟨h1, h2⟩ := hn
  by_cases h0 : n < 0
  · have ha : ((-(n + 1)) % (m : Int)) = ((arnd n m : Nat) : Int) := by
      unfold arnd
      rw [if_pos h0, Int.natCast_emod, Int.toNat_of_nonneg (by omega)]
    have hmz : ((m : Int) == 0) = false := by rw [beq_eq_false_iff_ne]; omega
    have HA := Lib.hid ha
    clear ha
    go_enter Tryz.func8, Tryz.ntmps8
    go_wp2_with fail
    go_ret
    exact ⟨ret_int (by rw [← HA.out, ← Int.neg_tmod, Int.tmod_eq_emod_of_nonneg (by omega)]), rfl⟩
  · have ha : (n % (m : Int)) = ((arnd n m : Nat) : Int) := by
      unfold arnd
      rw [if_neg h0, Int.natCast_emod, Int.toNat_of_nonneg (by omega)]
    have hmz : ((m : Int) == 0) = false := by rw [beq_eq_false_iff_ne]; omega
    have HA := Lib.hid ha
    clear ha
    go_enter Tryz.func8, Tryz.ntmps8
    go_wp2_with fail
    go_ret
    exact ⟨by rw [← HA.out]; rfl, rfl⟩
end Go.Proofs.YtgkmfblmkfclbaaGreatDoor
namespace Go.Proofs.YtgkmfblmkfclbaaGreatDoor
open Go.RowKit Pl

/- what a fresh row may become -/
def Fresh (w : World) (v : Value) : Prop := ∀ k, v.ownBlock = some k → w.heap.size ≤ k
theorem Mine.fresh {w w0 : World} {e : TypeId} {v : Value} {xs : List Value} (h : Mine w w0.heap.size e v xs) : ∀ k, v.ownBlock = some k → w0.heap.size ≤ k := fun k hk => (h.lt k hk).1
/- an append on a row of the call's own keeps what was there -/
theorem Grew.app {w0 w w' : World} {e : TypeId} {v : Value} {xs : List Value} (h : Grew w0 w) (hm : Mine w w0.heap.size e v xs) (hk : Keeps (fun i => v.ownBlock = some i) w w') : Grew w0 w' :=
  Keeps.then_ h hk fun i hi e => by have := (hm.lt i e).1; omega
theorem Grew.alloc {w0 w : World} (h : Grew w0 w) (o : Obj) : Grew w0 (w.alloc o) := Keeps.alloc h o
theorem Grew.drew {w0 w : World} (h : Grew w0 w) : Grew w0 w.drew := Keeps.drew h
theorem Grew.drewN {w0 w : World} (h : Grew w0 w) (n : Nat) : Grew w0 (w.drewN n) := Keeps.drewN h n
theorem Mine.slice {w : World} {base : Nat} {e : TypeId} {v : Value} {xs : List Value} (h : Mine w base e v xs) : ∃ A n c, v = .slice A n c ∧ n = xs.length := by
  rcases h.form with ⟨rfl, rfl⟩ | ⟨g, cap, cur, rfl, _⟩
  · exact ⟨_, _, _, rfl, rfl⟩
  · exact ⟨_, _, _, rfl, rfl⟩

end Go.Proofs.YtgkmfblmkfclbaaGreatDoor
