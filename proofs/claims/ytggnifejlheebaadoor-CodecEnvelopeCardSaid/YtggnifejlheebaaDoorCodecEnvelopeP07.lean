/- codec.Ints: the bytes of a list of numbers. What every law of the seat shares at its door: the tables, a world for the witness, and what an argument that came in reads as. How long an argument that came in may be. wire.Writer: numbers and byte slices appended. wire.Writer: signed numbers, byte slices, the bytes so far. -/
import Derived.Test.YtggnifejlheebaaDoorCodecEnvelopeP06
import Derived.Test.YtggnifejlheebaaDoorCards
import Derived.Test.YtggnifejlheebaaDoorTie
import Derived.WalkKit
import Derived.ProofKit
import Derived.OpenShut
import Derived.ShutString
import Derived.ChangeOld
import Derived.Below
import Derived.Deep.DeepHandedRow
import Derived.Lib.LaidTab
import Derived.SizedLaws
namespace Go.Proofs.YtggnifejlheebaaDoor
open Go.RowKit Pl

def vi (x : Int) : Value := .int .i64 x
theorem wrap_sec (x a b : Int) : wrap64 (wrap64 (x - wrap64 (2 * a)) + b) = wrap64 (x - 2 * a + b) := by unfold wrap64; omega

theorem KeepsW.grew_of {w0 w w' : World} {g : Nat} {v : Value} {s : List Bool} (h0 : Grew w0 w) (hk : KeepsW g v w w') (hb : BW w w0.heap.size g v s) (hg : w0.heap.size ≤ g) : Grew w0 w' :=
  Keeps.then_ h0 hk fun i hi e => by
    rcases e with rfl | e
    · omega
    · have := (hb.2.lt i e).1; omega

set_option maxHeartbeats 1600000 in
theorem cints_any (v : Value) (l : List Int) (w : World) (h : Rd w w.heap.size v (l.map vi)) (hi : ∀ x ∈ l, I64 x) (hl : l.length ≤ 1000000000) (ht : Tab w w.heap.size) :
    Calls Tryd.prog 33 #[v] w fun e w' => ∃ v', e = .returned v' ∧ Mine w' w.heap.size 5 v' ((pack (ints l)).map vb) ∧ Grew w w' := by
  obtain ⟨A, n, c, rfl, hn, hc⟩ := h.form
  rw [List.length_map] at hn
  have hnl : n ≤ 1000000000 := by omega
  have HN := Lib.hid hn
  have HI := Lib.hid hi
  clear hn hi
  have ht1 : Tab (w.alloc (.cells #[.slice none 0 0, .int .i64 0] 55)) w.heap.size := ht.grew ((Keeps.refl _ w).alloc _)
  have hb1 : BW (w.alloc (.cells #[.slice none 0 0, .int .i64 0] 55)) w.heap.size w.heap.size (.slice none 0 0) [] := ⟨Box.new w _ _, Mine.nil _ _ _⟩
  have HW := Lib.hid (write_any w.heap.size w.heap.size _ [] (n : Nat) _ hb1 (Nat.le_refl _) ht1 (by simp) (by simp) (by unfold I64; omega))
  clear ht1
  go_enter Tryd.func33, Tryd.ntmps33
  go_wp2_with (go_at_call 18; refine HW.out.mono ?_; rintro e w2 ⟨rfl, v2, k1, k2, k3⟩)
  have hG2 : Grew w w2 := k2.grew_of ((Keeps.refl _ w).alloc _) hb1 (Nat.le_refl _)
  clear k2 k3 hb1
  go_loopw [4, 5, 13] (fun a b i wr => ∃ (j : Nat) (v' : Value), j ≤ n ∧ i = .int .i64 j ∧ a = .int .i64 (p1 l j) ∧ b = .int .i64 (p2 l j) ∧ BW wr w.heap.size w.heap.size v' (code n ++ codes ((seconds 0 0 l).take j)) ∧ Grew w wr)
    (fun _ _ i _ => n - (intOf i).toNat)
  case atStart => exact ⟨0, v2, by omega, rfl, rfl, rfl, by simpa [codes] using k1, hG2⟩
  case round =>
    clear k1 hG2 HW
    obtain ⟨j, v', hj, rfl, rfl, rfl, hB, hG⟩ := hrel
    by_cases hlt : j < n
    · obtain ⟨ad, u, rfl, hadb, hu, hcell⟩ := (h.grew (Nat.le_refl _) hG).at_ (j := j) (by rw [List.length_map, ← HN.out]; exact hlt)
      have hjl : j < l.length := by rw [← HN.out]; exact hlt
      obtain rfl : vi (l.getD j 0) = u := by
        rw [List.getElem?_map, List.getElem?_eq_getElem hjl] at hu
        simpa [List.getD_eq_getElem?_getD, List.getElem?_eq_getElem hjl] using hu
      have htw := ht.grew hG
      have hlen : (code n ++ codes ((seconds 0 0 l).take j)).length < 1099511500000 := by
        have h1 := code_len_le n
        have h2 := codes_len ((seconds 0 0 l).take j)
        have h3 : ((seconds 0 0 l).take j).length ≤ j := List.length_take_le _ _
        rw [List.length_append]; omega
      have hsz := hG.size
      have hst : BW wr w.heap.size w.heap.size v' (code n ++ codes ((seconds 0 0 l).take j)) → ∀ w3 v3, BW w3 w.heap.size w.heap.size v3 (code n ++ codes ((seconds 0 0 l).take j) ++ code (wrap64 (wrap64 (l.getD j 0 - wrap64 (2 * p1 l j)) + p2 l j))) → BW w3 w.heap.size w.heap.size v3 (code n ++ codes ((seconds 0 0 l).take (j + 1))) := by
        intro _ w3 v3 h3
        rw [wrap_sec, List.append_assoc, ← codes_snoc, ← seconds_take l j hjl] at h3
        exact h3
      have HST := Lib.hid (hst hB)
      have HW := Lib.hid (write_any w.heap.size w.heap.size v' _ (wrap64 (wrap64 (l.getD j 0 - wrap64 (2 * p1 l j)) + p2 l j)) wr hB (Nat.le_refl _) htw hlen hsz (wrap_I64 _))
      have hnx1 : p1 l (j + 1) = l.getD j 0 := rfl
      have hnx2 : p2 l (j + 1) = p1 l j := rfl
      have H1 := Lib.hid hnx1
      have H2 := Lib.hid hnx2
      clear hst hnx1 hnx2 hu hlen htw hsz
      unfold vi at hcell
      generalize l.getD j 0 = x at *
      go_wp2_with (go_at_call 18; refine HW.out.mono ?_; rintro e w3 ⟨rfl, v3, k1, k2, k3⟩)
      go_roundw
      case rel => exact ⟨j + 1, v3, by omega, by go_num, by rw [H1.out], by rw [H2.out], HST.out _ _ k1, k2.grew_of hG hB (Nat.le_refl _)⟩
      case measure => simp [intOf]; omega
    · obtain rfl : j = n := by omega
      have hall : code j ++ codes ((seconds 0 0 l).take j) = ints l := by
        unfold ints
        rw [List.take_of_length_le (by rw [seconds_length, ← HN.out]; omega), ← HN.out]
      rw [hall] at hB
      have hlen : (ints l).length < 1099511627776 := by
        have h1 := code_len_le l.length
        have h2 := codes_len (seconds 0 0 l)
        rw [seconds_length] at h2
        unfold ints
        rw [List.length_append]; omega
      have HD := Lib.hid (wdone_any w.heap.size w.heap.size v' _ wr hB hlen)
      have hsz := hG.size
      clear hall hlen
      go_wp2_with (go_at_call 19; refine HD.out.mono ?_; rintro e w3 ⟨v3, rfl, k1, k2⟩)
      go_ret
      exact ⟨_, rfl, k1.base_le hsz, hG.trans k2⟩
end Go.Proofs.YtggnifejlheebaaDoor
namespace Go.Proofs.YtggnifejlheebaaDoor
open Go.ChangeShapes Go.WideShapes Go.ChangeAt Go.RowKit Pl
open Go.ChangeMaps (open_string shut_string)

theorem own : ownKnob Tryd.prog.godebug = none := by kernel_rfl
theorem laidOut : laidOutB Tryd.prog = true := by kernel_rfl
theorem gTab : Tryd.prog.globalNamed "intervalmon/codec.widths" = some 0 := by kernel_rfl
theorem gTabType : (Tryd.prog.globals[0]?).map (·.type) = some 83 := by kernel_rfl
theorem cellsTab : Tryd.prog.cellsOf 83 = 6 := by kernel_rfl
theorem cellsInt : Tryd.prog.cellsOf 3 = 1 := by kernel_rfl

theorem cell_lt {w : World} {a : Addr} {v : Value} (h : w.cell? a = some v) : a.block < w.heap.size := by
  rcases Nat.lt_or_ge a.block w.heap.size with h1 | h1
  · exact h1
  · simp [World.cell?, Array.getElem?_eq_none h1] at h
/- what a list of laid variables that begins with the widths gives -/
theorem widths_of {W : World} {rest : List (String × DataW Unit)} (h : laidMet Tryd.prog (("intervalmon/codec.widths", Rows.laid_intervalmon_codec_widths) :: rest) W) : Tab W W.heap.size := by
  have ht : Lib.TabIs Tryd.prog W "intervalmon/codec.widths" .i64 [0, 4, 8, 16, 32, 64] :=
    Lib.tabIs_of_head gTab gTabType Tryd.underlying83 Tryd.underlying3 cellsInt cellsTab h
  have hc : ∀ i, i < 6 → W.cell? ⟨0, i, none⟩ = some (.int .i64 (width i : Nat)) := by
    intro i hi
    rw [ht.cell gTab i (by simpa using hi)]
    match i, hi with
    | 0, _ => rfl
    | 1, _ => rfl
    | 2, _ => rfl
    | 3, _ => rfl
    | 4, _ => rfl
    | 5, _ => rfl
  exact ⟨cell_lt (hc 0 (by omega)), hc⟩

/- a world for a witness: the settled one, the tables holding what their initialisers lay -/
def relay (cs : Array Value) : Obj → Obj
  | .cells _ t frozen => .cells cs t frozen
  | o => o
/- a slice of integers that came in: nil, or a row of cells, each fitting its kind -/
def IsRow (k : IntKind) (w : World) (a : Option Addr) (len cap : Nat) (zs : List Int) : Prop :=
  (a = none ∧ len = 0 ∧ cap = 0 ∧ zs = []) ∨
  ∃ x, a = some x ∧ len ≤ cap ∧ cap ≤ maxLen ∧ zs.length = cap ∧ (∀ i, i < zs.length → w.cell? (x.add i) = some (.int k (zs.getD i 0))) ∧ ∀ n ∈ zs, (Lit.int k n).wf = true

theorem i64_of_wf {n : Int} (h : (Lit.int .i64 n).wf = true) : I64 n := by
  simpa [Lit.wf, I64, IntKind.min, IntKind.max, IntKind.signed, IntKind.bits] using h
theorem u8_of_wf {n : Int} (h : (Lit.int .u8 n).wf = true) : 0 ≤ n ∧ n < 256 := by
  have : 0 ≤ n ∧ n ≤ 255 := by simpa [Lit.wf, IntKind.min, IntKind.max, IntKind.signed, IntKind.bits] using h
  omega

theorem IsRow.rd_ {k : IntKind} {w : World} {a : Option Addr} {len cap : Nat} {zs : List Int} (h : IsRow k w a len cap zs) :
    Rd w w.heap.size (.slice a len cap) ((zs.take len).map fun n => .int k n) := by
  rcases h with ⟨rfl, rfl, rfl, rfl⟩ | ⟨x, rfl, hl, _, hz, hc, _⟩
  · exact ⟨none, 0, rfl, Nat.le_refl _, fun h => absurd h (by simp)⟩
  · have hn : ((zs.take len).map fun n => Value.int k n).length = len := by simp; omega
    refine ⟨some x, cap, by rw [hn], by rw [hn]; exact hl, fun h0 => ⟨x, rfl, ?_, fun j u hu => ?_⟩⟩
    · have := cell_lt (hc 0 (by omega))
      rwa [block_add] at this
    · have hj : j < len := by rw [← hn]; exact (List.getElem?_eq_some_iff.1 hu).1
      rw [hc j (by omega), ← hu]
      have hjz : j < zs.length := by omega
      simp [List.getD, hj, hjz]

/- integers -/
theorem IsRow.ints {w : World} {a : Option Addr} {len cap : Nat} {zs : List Int} (h : IsRow .i64 w a len cap zs) :
    ∃ ls : List Int, Rd w w.heap.size (.slice a len cap) (ls.map vi) ∧ ∀ x ∈ ls, I64 x := by
  refine ⟨zs.take len, h.rd_, fun x hx => ?_⟩
  have hx := List.mem_of_mem_take hx
  rcases h with ⟨_, _, _, rfl⟩ | ⟨_, _, _, _, _, _, hw⟩
  · simp at hx
  · exact i64_of_wf (hw x hx)
/- bytes -/
theorem IsRow.bytes {w : World} {a : Option Addr} {len cap : Nat} {zs : List Int} (h : IsRow .u8 w a len cap zs) :
    ∃ bs : List Nat, Rd w w.heap.size (.slice a len cap) (bs.map vb) ∧ Bytes bs := by
  have hw : ∀ x ∈ zs.take len, 0 ≤ x ∧ x < 256 := by
    intro x hx
    have hx := List.mem_of_mem_take hx
    rcases h with ⟨_, _, _, rfl⟩ | ⟨_, _, _, _, _, _, hw⟩
    · simp at hx
    · exact u8_of_wf (hw x hx)
  refine ⟨(zs.take len).map Int.toNat, ?_, fun x hx => ?_⟩
  · have := h.rd_
    have e : ((zs.take len).map fun n => Value.int .u8 n) = ((zs.take len).map Int.toNat).map vb := by
      rw [List.map_map]
      refine List.map_congr_left fun n hn => ?_
      have := (hw n hn).1
      simp [vb, Int.toNat_of_nonneg this]
    rwa [e] at this
  · obtain ⟨n, hn, rfl⟩ := List.mem_map.1 hx
    have := hw n hn
    omega

/- a slice of integers that came in, opened -/
theorem row_of {H : Type} {enc : TypeId × Value → H} {k : IntKind} {W : World} {t e : TypeId} {a : Option Addr} {len cap : Nat} {d : DataW H} {p : List MemPlace}
    (ht : Tryd.prog.underlying t = some (.slice e)) (he : Tryd.prog.underlying e = some (.int k)) (hce : Tryd.prog.cellsOf e = 1)
    (h : DataW.Trod enc Tryd.prog W 0 (fun _ => true) true t (.slice a len cap) d p) : ∃ zs, IsRow k W a len cap zs := by
  obtain ⟨fuel, hf⟩ := h
  rcases open_ints ht he hce hf with ⟨hcs, _⟩ | ⟨x, l, c, zs, hcs, _, hl, hm, hz, _, hcell, hwz⟩
  · simp [Value.cells] at hcs
    obtain ⟨rfl, rfl, rfl⟩ := hcs
    exact ⟨[], .inl ⟨rfl, rfl, rfl, rfl⟩⟩
  · simp [Value.cells] at hcs
    obtain ⟨rfl, rfl, rfl⟩ := hcs
    exact ⟨zs, .inr ⟨_, rfl, hl, hm, by simpa using hz, hcell, hwz⟩⟩
end Go.Proofs.YtggnifejlheebaaDoor
namespace Go.Proofs.YtggnifejlheebaaDoor
open Go.ChangeShapes Go.WideShapes Go.ChangeAt Go.RowKit Pl

theorem Rd.len_eq {w : World} {B : Nat} {A : Option Addr} {n c : Nat} {xs : List Value} (h : Rd w B (.slice A n c) xs) : n = xs.length := by
  obtain ⟨A', c', hv, _⟩ := h
  injection hv
theorem bytesInt : Tryd.prog.bytesOf 3 = 8 := by kernel_rfl
theorem ints_len {H : Type} {enc : TypeId × Value → H} {W : World} {a : Option Addr} {len cap : Nat} {d : DataW H} {p : List MemPlace} {ts : List TypeId} {ds : List (DataW H)} {ls : List Int}
    (h : DataW.Trod enc Tryd.prog W 0 (fun _ => true) true 22 (.slice a len cap) d p) (hsz : (DataW.weightsEach Tryd.prog ts ds).all (· ≤ reachBytes) = true)
    (j : Nat) (hj : ts[j]? = some 22) (hd : ds[j]? = some d) (hr : Rd W W.heap.size (.slice a len cap) (ls.map vi)) : ls.length ≤ 1000000000000000 := by
  have hl := hr.len_eq
  rw [List.length_map] at hl
  rw [← hl]
  obtain ⟨fuel, hf⟩ := h
  rcases open_ints Tryd.underlying22 Tryd.underlying3 (by kernel_rfl) hf with ⟨hcs, _⟩ | ⟨x, l, c, zs, hcs, _, hl, hm, hz, hx, _⟩
  · simp [Value.cells] at hcs
    omega
  · simp [Value.cells] at hcs
    obtain ⟨rfl, rfl, rfl⟩ := hcs
    simp only [Prod.mk.injEq] at hx
    obtain ⟨rfl, -⟩ := hx
    have := sized_slice hsz hj hd Tryd.underlying22
    rw [bytesInt] at this
    have hl1 : (lits (H := H) .i64 (zs.take len)).length = len := by
      simp [lits]
      simp at hz
      omega
    have hb := reachBytes_lt
    rw [hl1] at this
    omega
end Go.Proofs.YtggnifejlheebaaDoor
namespace Go.Proofs.YtggnifejlheebaaDoor
open Go.RowKit Pl

/- the bytes of a number -/
def vint (n : Nat) : List Nat := if h : n < 128 then [n] else (n % 128 + 128) :: vint (n / 128)
termination_by n
decreasing_by omega
theorem vint_lt {n : Nat} (h : n < 128) : vint n = [n] := by rw [vint, dif_pos h]
theorem vint_ge {n : Nat} (h : ¬ n < 128) : vint n = (n % 128 + 128) :: vint (n / 128) := by rw [vint, dif_neg h]
theorem vint_len (n k : Nat) (h : n < 128 ^ (k + 1)) : (vint n).length ≤ k + 1 := by
  induction k generalizing n with
  | zero => rw [vint_lt (by simpa using h)]; simp
  | succ k ih =>
    by_cases h1 : n < 128
    · rw [vint_lt h1]; simp
    · rw [vint_ge h1, List.length_cons]
      have := ih (n / 128) (by rw [Nat.div_lt_iff_lt_mul (by omega), ← Nat.pow_succ]; exact h)
      omega
theorem vint_len10 {n : Nat} (h : n < 18446744073709551616) : (vint n).length ≤ 10 := vint_len n 9 (Nat.lt_trans h (by decide))
theorem vint_bytes (n : Nat) : Bytes (vint n) := by
  intro x hx
  induction n using Nat.strongRecOn with
  | _ n ih =>
    by_cases h : n < 128
    · rw [vint_lt h] at hx; simp at hx; omega
    · rw [vint_ge h] at hx
      rcases List.mem_cons.1 hx with rfl | hx
      · omega
      · exact ih (n / 128) (by omega) hx
theorem or128 (x : Nat) (h : x < 256) : x ||| 128 = x % 128 + 128 := by
  have key : ∀ x : Fin 256, x.1 ||| 128 = x.1 % 128 + 128 := by decide +kernel
  exact key ⟨x, h⟩

end Go.Proofs.YtggnifejlheebaaDoor
namespace Go.Proofs.YtggnifejlheebaaDoor
open Go.RowKit Pl

def rawB (xs : List Nat) : List Nat := vint xs.length ++ xs
end Go.Proofs.YtggnifejlheebaaDoor
