/- Reading varints, signed numbers and strings of bytes, and decoding a block: plain. The reader of package wire: its state; one byte. The reader of package wire: unsigned and signed numbers, the end. The reader of package wire: byte slices. wire: strings written and read. strings.Builder: written by bytes and strings; what it holds. The reference: whether a claim is encodable; numbers kept in a range; differences of a list. -/
import Derived.Test.YtggnifejlheebaaDoorCodecEnvelopeP20
import Derived.Test.YtggnifejlheebaaDoorCodecEnvelopeP11
import Derived.Test.YtggnifejlheebaaDoorCodecEnvelopeP19
import Derived.Test.YtggnifejlheebaaDoorCodecEnvelopeP07
import Derived.Lib.AppendStr
import Derived.Laws.IdiomStrings
import Derived.Laws.BytesArg
import Derived.Lib.Builder
import Derived.Laws.Externs
import Derived.Lib.UnsafeStr
import Derived.StillTailTactics
import Derived.Test.YtggnifejlheebaaDoorCodecEnvelopeP18
import Derived.Test.YtggnifejlheebaaDoorCodecEnvelopeP16
namespace Go.Proofs.YtggnifejlheebaaDoor.Pl

/- a varint from its i-th byte on, with a so far: the error, or the number and the rest -/
def uP : Nat → Nat → List Nat → Sum Int (Nat × List Nat)
  | _, _, [] => .inl 3
  | i, a, c :: t => if (i = 9 ∧ 1 < c) ∨ (0 < i ∧ c = 0) then .inl 2 else if c < 128 then .inr (a + c % 128 * 128 ^ i, t) else uP (i + 1) (a + c % 128 * 128 ^ i) t
theorem uP_nil (i a : Nat) : uP i a [] = .inl 3 := rfl
theorem uP_bad {i a c : Nat} {t : List Nat} (h : (i = 9 ∧ 1 < c) ∨ (0 < i ∧ c = 0)) : uP i a (c :: t) = .inl 2 := by rw [uP, if_pos h]
theorem uP_end {i a c : Nat} {t : List Nat} (h : ¬ ((i = 9 ∧ 1 < c) ∨ (0 < i ∧ c = 0))) (hc : c < 128) : uP i a (c :: t) = .inr (a + c % 128 * 128 ^ i, t) := by rw [uP, if_neg h, if_pos hc]
theorem uP_on {i a c : Nat} {t : List Nat} (h : ¬ ((i = 9 ∧ 1 < c) ∨ (0 < i ∧ c = 0))) (hc : ¬ c < 128) : uP i a (c :: t) = uP (i + 1) (a + c % 128 * 128 ^ i) t := by rw [uP, if_neg h, if_neg hc]
/- what is read is below 2^64, and no longer than what was there -/
theorem uP_lt : ∀ (s : List Nat) (i a n : Nat) (t : List Nat), i ≤ 9 → a < 128 ^ i → uP i a s = .inr (n, t) → n < 18446744073709551616 := by
  intro s
  induction s with
  | nil => intro i a n t _ _ h; cases h
  | cons c s ih =>
    intro i a n t hi ha h
    by_cases hb : (i = 9 ∧ 1 < c) ∨ (0 < i ∧ c = 0)
    · rw [uP_bad hb] at h; cases h
    · have hm : a + c % 128 * 128 ^ i < 128 ^ (i + 1) := by
        have : c % 128 ≤ 127 := by omega
        have := Nat.mul_le_mul_right (128 ^ i) this
        rw [Nat.pow_succ]; omega
      by_cases hc : c < 128
      · rw [uP_end hb hc] at h
        injection h with h
        injection h with h1 _
        subst h1
        by_cases h9 : i = 9
        · subst h9
          have e : (128 : Nat) ^ 9 = 9223372036854775808 := by decide
          rw [e] at ha ⊢
          have : c % 128 ≤ 1 := by omega
          omega
        · have : 128 ^ (i + 1) ≤ 128 ^ 9 := Nat.pow_le_pow_right (by omega) (by omega)
          have e : (128 : Nat) ^ 9 = 9223372036854775808 := by decide
          omega
      · rw [uP_on hb hc] at h
        exact ih (i + 1) _ n t (by omega) hm h
theorem uP_suffix : ∀ (s : List Nat) (i a n : Nat) (t : List Nat), uP i a s = .inr (n, t) → ∃ k, k ≤ s.length ∧ t = s.drop k := by
  intro s
  induction s with
  | nil => intro i a n t h; cases h
  | cons c s ih =>
    intro i a n t h
    by_cases hb : (i = 9 ∧ 1 < c) ∨ (0 < i ∧ c = 0)
    · rw [uP_bad hb] at h; cases h
    · by_cases hc : c < 128
      · rw [uP_end hb hc] at h
        injection h with h
        injection h with _ h2
        exact ⟨1, by simp, h2.symm⟩
      · rw [uP_on hb hc] at h
        obtain ⟨k, hk, e⟩ := ih _ _ _ _ h
        exact ⟨k + 1, by simp; omega, e⟩
theorem uP_err : ∀ (s : List Nat) (i a : Nat) (e : Int), uP i a s = .inl e → e = 2 ∨ e = 3 := by
  intro s
  induction s with
  | nil => intro i a e h; injection h with h; exact .inr h.symm
  | cons c s ih =>
    intro i a e h
    by_cases hb : (i = 9 ∧ 1 < c) ∨ (0 < i ∧ c = 0)
    · rw [uP_bad hb] at h; injection h with h; exact .inl h.symm
    · by_cases hc : c < 128
      · rw [uP_end hb hc] at h; cases h
      · rw [uP_on hb hc] at h; exact ih _ _ _ h
/- a varint that was written is read -/
theorem uP_vint (n : Nat) : ∀ (i a : Nat) (t : List Nat), i ≤ 9 → n < 128 ^ (9 - i) * 2 → (0 < i → 0 < n) → uP i a (vint n ++ t) = .inr (a + n * 128 ^ i, t) := by
  induction n using Nat.strongRecOn with
  | ind n ih =>
    intro i a t hi hn h0
    by_cases h : n < 128
    · rw [vint_lt h, List.singleton_append, uP_end _ h, Nat.mod_eq_of_lt h]
      rintro (⟨rfl, h1⟩ | ⟨h1, h2⟩)
      · simp at hn; omega
      · have := h0 h1; omega
    · have h9 : i < 9 := by
        rcases Nat.lt_or_ge i 9 with h1 | h1
        · exact h1
        · have : i = 9 := by omega
          subst this
          simp at hn; omega
      rw [vint_ge h, List.cons_append, uP_on (by omega) (by omega)]
      have e1 : (9 - i) = (9 - (i + 1)) + 1 := by omega
      rw [e1, Nat.pow_succ] at hn
      rw [ih (n / 128) (by omega) (i + 1) _ t (by omega) (by omega) (by omega)]
      have e2 : (n % 128 + 128) % 128 = n % 128 := by omega
      rw [e2, Nat.pow_succ, Nat.add_assoc]
      congr 3
      have := Nat.div_add_mod n 128
      calc n % 128 * 128 ^ i + n / 128 * (128 ^ i * 128) = (n % 128 + 128 * (n / 128)) * 128 ^ i := by
            rw [Nat.add_mul, Nat.mul_comm (128 ^ i) 128, ← Nat.mul_assoc, Nat.mul_comm (n / 128) 128]
        _ = n * 128 ^ i := by rw [Nat.add_comm, this]
theorem uP_vint0 {n : Nat} (hn : n < 18446744073709551616) (t : List Nat) : uP 0 0 (vint n ++ t) = .inr (n, t) := by
  rw [uP_vint n 0 0 t (by omega) (by have : (128 : Nat) ^ (9 - 0) * 2 = 18446744073709551616 := by decide
                                     omega) (by omega)]
  simp

theorem uP_canon : ∀ (s : List Nat) (i a n : Nat) (t : List Nat), Bytes s → uP i a s = .inr (n, t) → ∃ m, s = vint m ++ t ∧ n = a + m * 128 ^ i ∧ (0 < i → 0 < m) := by
  intro s
  induction s with
  | nil => intro i a n t _ h; cases h
  | cons c s ih =>
    intro i a n t hB h
    have hc256 := hB c (by simp)
    by_cases hb : (i = 9 ∧ 1 < c) ∨ (0 < i ∧ c = 0)
    · rw [uP_bad hb] at h; cases h
    · by_cases hc : c < 128
      · rw [uP_end hb hc] at h
        injection h with h
        injection h with h1 h2
        refine ⟨c, by rw [vint_lt hc, h2]; rfl, by rw [← h1, Nat.mod_eq_of_lt hc], fun h0 => by omega⟩
      · rw [uP_on hb hc] at h
        obtain ⟨m, e1, e2, e3⟩ := ih _ _ _ _ (fun x hx => hB x (by simp [hx])) h
        have hm := e3 (by omega)
        refine ⟨c % 128 + 128 * m, ?_, ?_, fun _ => by omega⟩
        · rw [vint_ge (by omega), e1, List.cons_append]
          congr 2
          · omega
          · congr 1; congr 1; omega
        · rw [e2, Nat.pow_succ, Nat.add_mul, Nat.mul_comm 128 m, Nat.mul_assoc, Nat.mul_comm 128 (128 ^ i), Nat.add_assoc]
theorem uP_canon0 {s : List Nat} (h : Bytes s) {n : Nat} {t : List Nat} (hu : uP 0 0 s = .inr (n, t)) : s = vint n ++ t := by
  obtain ⟨m, e1, e2, _⟩ := uP_canon s 0 0 n t h hu
  have : n = m := by simpa using e2
  rw [this]; exact e1

/- the state of a reader: its error, or what is left -/
abbrev RSt := Sum Int (List Nat)
def sU (s : RSt) : Nat × RSt :=
  match s with
  | .inl e => (0, .inl e)
  | .inr l => match uP 0 0 l with
    | .inl e => (0, .inl e)
    | .inr (n, t) => (n, .inr t)
def sI (s : RSt) : Int × RSt := (unzig (sU s).1, (sU s).2)
def sRaw (s : RSt) : List Nat × RSt :=
  match sU s with
  | (_, .inl e) => ([], .inl e)
  | (n, .inr t) => if t.length < n then ([], .inl 3) else (t.take n, .inr (t.drop n))
def sEnd : RSt → Int
  | .inl e => e
  | .inr [] => 0
  | .inr (_ :: _) => 2
theorem sU_inl (e : Int) : sU (.inl e) = (0, .inl e) := rfl
theorem sU_err {l : List Nat} {e : Int} (h : uP 0 0 l = .inl e) : sU (.inr l) = (0, .inl e) := by unfold sU; simp only [h]
theorem sU_ok {l : List Nat} {n : Nat} {t : List Nat} (h : uP 0 0 l = .inr (n, t)) : sU (.inr l) = (n, .inr t) := by unfold sU; simp only [h]
theorem sRaw_err {s : RSt} {n : Nat} {e : Int} (h : sU s = (n, .inl e)) : sRaw s = ([], .inl e) := by unfold sRaw; simp only [h]
theorem sRaw_more {s : RSt} {n : Nat} {t : List Nat} (h : sU s = (n, .inr t)) (hn : t.length < n) : sRaw s = ([], .inl 3) := by unfold sRaw; simp only [h, if_pos hn]
theorem sRaw_ok {s : RSt} {n : Nat} {t : List Nat} (h : sU s = (n, .inr t)) (hn : ¬ t.length < n) : sRaw s = (t.take n, .inr (t.drop n)) := by unfold sRaw; simp only [h, if_neg hn]
theorem sU_lt (s : RSt) : (sU s).1 < 18446744073709551616 := by
  rcases s with e | l
  · rw [sU_inl]; exact Nat.zero_lt_succ _
  · cases h : uP 0 0 l with
    | inl e => rw [sU_err h]; exact Nat.zero_lt_succ _
    | inr p => obtain ⟨n, t⟩ := p; rw [sU_ok h]; exact uP_lt l 0 0 n t (by omega) (by decide) h
/- a block decoded -/
def inB (core : List Nat) : Sum Int (Clm × List Clm) :=
  let a := sI (.inr core)
  let b := sI a.2
  let c := sI b.2
  let d := sI c.2
  let r := sRaw d.2
  if sEnd r.2 ≠ 0 then .inl 2 else
  match refDecode r.1 with
  | none => .inl 2
  | some l => if okB (a.1, b.1, c.1, d.1) then .inr ((a.1, b.1, c.1, d.1), l) else .inl 1
def decB (bs : List Nat) : Sum Int (Clm × List Clm) :=
  let r := sRaw (.inr bs)
  let u := sU r.2
  if sEnd u.2 ≠ 0 then .inl 2 else if u.1 ≠ hashB blockL r.1 then .inl 11 else inB r.1
end Go.Proofs.YtggnifejlheebaaDoor.Pl
namespace Go.Proofs.YtggnifejlheebaaDoor
open Go.RowKit Pl

/- a number stored into a cell -/
theorem st_i {ops : Array Oper} {rest : List Oper} {o : Oper} {a : Act} {w : World} {Q : Exit → Act → World → Prop} (x y : Operand) (g k : Nat) (n : Int) (u : Value) (hgd : o.guard = none) (ho : o.op = .store 3 x y)
    (hx : a.eval x = .pointer (some ⟨g, k, none⟩)) (hy : a.eval y = .int .i64 n) (hc : w.cell? ⟨g, k, none⟩ = some u) (hf : w.frozen? ⟨g, k, none⟩ = false)
    (h : ∀ w', w' = w.setCell ⟨g, k, none⟩ (.int .i64 n) → wpList Tryd.prog ops Q rest (a.put o.dst undef) w') : wpList Tryd.prog ops Q (o :: rest) a w := by
  refine wpList_plain hgd fun K hK => ?_
  unfold Oper.wp execOp
  simp only [ho, hx, hy]
  go_simp
  exact hK _ _ (h _ rfl)
theorem st_e {ops : Array Oper} {rest : List Oper} {o : Oper} {a : Act} {w : World} {Q : Exit → Act → World → Prop} (x y : Operand) (g k : Nat) (n : Int) (u : Value) (hgd : o.guard = none) (ho : o.op = .store 32 x y)
    (hx : a.eval x = .pointer (some ⟨g, k, none⟩)) (hy : a.eval y = .int .i64 n) (hc : w.cell? ⟨g, k, none⟩ = some u) (hf : w.frozen? ⟨g, k, none⟩ = false)
    (h : ∀ w', w' = w.setCell ⟨g, k, none⟩ (.int .i64 n) → wpList Tryd.prog ops Q rest (a.put o.dst undef) w') : wpList Tryd.prog ops Q (o :: rest) a w := by
  refine wpList_plain hgd fun K hK => ?_
  unfold Oper.wp execOp
  simp only [ho, hx, hy]
  go_simp
  exact hK _ _ (h _ rfl)
end Go.Proofs.YtggnifejlheebaaDoor
namespace Go.Proofs.YtggnifejlheebaaDoor
open Go.RowKit Pl

def stP (bs : List Nat) (a : Nat) (er : Int) : RSt := if er = 0 then .inr (bs.drop a) else .inl er
theorem stP_ok (bs : List Nat) (a : Nat) : stP bs a 0 = .inr (bs.drop a) := rfl
theorem stP_err (bs : List Nat) (a : Nat) {er : Int} (h : er ≠ 0) : stP bs a er = .inl er := if_neg h
theorem and127 (x : Nat) (h : x < 256) : bits BinOp.and IntKind.u8 (x : Int) 127 = ((x % 128 : Nat) : Int) := by
  have h1 := u8_and_nat x 127 h (by omega)
  have key : ∀ x : Fin 256, x.1 &&& 127 = x.1 % 128 := by decide +kernel
  rw [key ⟨x, h⟩] at h1
  exact h1
theorem or_group (a x i : Nat) (ha : a < 128 ^ i) (hx : x < 128) (hi : i ≤ 9) (h9 : i = 9 → x ≤ 1) : bits BinOp.or IntKind.u64 (a : Int) (IntKind.u64.wrap ((x : Int) * 2 ^ (7 * i))) = ((a + x * 128 ^ i : Nat) : Int) := by
  have hp : (128 : Nat) ^ i = 2 ^ (7 * i) := by rw [Nat.pow_mul]
  rw [hp] at ha ⊢
  have e : (x : Int) * 2 ^ (7 * i) = ((x * 2 ^ (7 * i) : Nat) : Int) := by rw [Int.natCast_mul, Int.natCast_pow]; rfl
  have hl : x * 2 ^ (7 * i) < 18446744073709551616 := by
    by_cases h : i = 9
    · have := h9 h
      subst h
      have : x * 2 ^ (7 * 9) ≤ 1 * 2 ^ (7 * 9) := Nat.mul_le_mul this (Nat.le_refl _)
      omega
    · have hq : (2 : Nat) ^ (7 * i) ≤ 2 ^ 56 := Nat.pow_le_pow_right (by omega) (by omega)
      have : x * 2 ^ (7 * i) ≤ 127 * 2 ^ 56 := Nat.mul_le_mul (by omega) hq
      omega
  have ha2 : a < 18446744073709551616 := by
    have hq : (2 : Nat) ^ (7 * i) ≤ 2 ^ 63 := Nat.pow_le_pow_right (by omega) (by omega)
    omega
  rw [e, IntKind.wrap_u64, Int.emod_eq_of_lt (by omega) (by omega), u64_or_nat _ _ ha2 hl, or_shift a x _ ha]
end Go.Proofs.YtggnifejlheebaaDoor
namespace Go.Proofs.YtggnifejlheebaaDoor
open Go.RowKit Pl

theorem make_bytes (n : Nat) (hn : n ≤ 1000000000) : ∃ Z : Array Value, Z.size = n ∧ ∀ w : World, (Instr.makeSlice 31 (.int .i64 0) (.int .i64 (n : Int))).run Tryd.prog w = .ok (.slice (some ⟨w.heap.size, 0, none⟩) 0 n) (w.alloc (.cells Z 5)) := by
  obtain ⟨i, hi, hz, hs, hby⟩ := info_parts slU8.info
  refine ⟨madeCells (Value.int .u8 0).cells n, size_madeCells _ _, fun w => ?_⟩
  have := run_make (P := Tryd.prog) w 31 5 i _ Tryd.underlying31 hi hz .i64 .i64 0 (n : Int) (by omega) (by omega) (by rw [hby]; omega) (by omega)
  rw [hs, Nat.mul_one] at this
  exact this
theorem take_step (bs : List Nat) (a j : Nat) (h : a + j < bs.length) : (bs.drop a).take (j + 1) = (bs.drop a).take j ++ [bs.getD (a + j) 0] := by
  have e : (bs.drop a)[j]? = some (bs.getD (a + j) 0) := by
    rw [List.getElem?_drop, List.getD_eq_getElem?_getD, List.getElem?_eq_getElem h]; rfl
  rw [List.take_add_one, e]; rfl

end Go.Proofs.YtggnifejlheebaaDoor
namespace Go.Proofs.YtggnifejlheebaaDoor
open Go.RowKit Pl

def bl (s : ByteArray) : List Nat := s.data.toList.map UInt8.toNat
theorem bl_length (s : ByteArray) : (bl s).length = s.size := by unfold bl; rw [List.length_map, Array.length_toList]; rfl
theorem bl_bytes (s : ByteArray) : Bytes (bl s) := fun x hx => by
  unfold bl at hx
  obtain ⟨b, _, rfl⟩ := List.mem_map.1 hx
  exact b.toNat_lt
theorem bl_cells (s : ByteArray) : Lib.strCells s = (bl s).map vb := by unfold Lib.strCells bl; rw [List.map_map]; rfl
theorem bl_inj {s t : ByteArray} (h : bl s = bl t) : s = t := by
  unfold bl at h
  have h2 : s.data.toList = t.data.toList := (List.map_inj_right (fun a b e => UInt8.toNat_inj.1 e)).1 h
  obtain ⟨s⟩ := s
  obtain ⟨t⟩ := t
  simp only at h2
  rw [Array.toList_inj.1 h2]
theorem sRaw_ok' (c t : List Nat) (hc : c.length < 18446744073709551616) : sRaw (.inr (rawB c ++ t)) = (c, .inr t) := by
  unfold rawB
  rw [List.append_assoc, sRaw_ok (sU_ok (uP_vint0 hc _)) (by rw [List.length_append]; omega), List.take_left' rfl, List.drop_left' rfl]
/- a string appended to a row of bytes -/
theorem app_str {w : World} {base : Nat} {v : Value} {bs : List Nat} {ops : Array Oper} {rest : List Oper} {o : Oper} {a : Act} {Q : Exit → Act → World → Prop} (hgd : o.guard = none) (s x : Operand)
    (ho : o.op = .call { callee := .builtin .append, args := #[s, x], argTypes := #[31, 9] })
    (hs : a.eval s = v) (hown : Mine w base 5 v (bs.map vb)) (t : ByteArray) (hx : a.eval x = .string t)
    (hn : bs.length + t.size ≤ 1099511627776) (hbase : base ≤ w.heap.size)
    (h : ∀ A m cap w', Mine w' base 5 (.slice A m cap) ((bs ++ bl t).map vb) → Keeps (fun i => v.ownBlock = some i) w w' → wpList Tryd.prog ops Q rest (a.put o.dst (.slice A m cap)) w') : wpList Tryd.prog ops Q (o :: rest) a w := by
  refine wpList_plain hgd fun K hK => ?_
  obtain ⟨i, hi, hz, hsz, hby⟩ := info_parts slU8.info
  obtain ⟨v', w', hrun, h2, h3, _⟩ := Lib.run_append_own_string (P := Tryd.prog) w base 31 9 o.type 5 i Tryd.underlying31 Tryd.underlying9 hi hz hsz hby v _ _ hown t (by rw [List.length_map]; unfold maxLen; omega) (by rw [List.length_map]; omega) hbase
  have hm : Mine w' base 5 v' ((bs ++ bl t).map vb) := by
    unfold Mine
    rw [List.map_append, List.length_append, ← bl_cells, Lib.strCells_length]
    exact h2
  unfold Oper.wp execOp
  simp only [ho, resolve, invoke, builtin, Sem.run_bind, Sem.run_pure, Result.andThen_ok, List.map_toArray, List.map_cons, List.map_nil, hs, hx, hrun]
  obtain ⟨A, m, cap, rfl, -⟩ := hm.slice
  exact hK _ _ (h A m cap w' hm ((Keeps.refl _ w).grown h3 (fun k e _ => e)))
/- the string of bytes that were read -/
set_option maxRecDepth 100000 in
theorem conv_str (s : ByteArray) {w : World} {B : Nat} {A : Option Addr} {n c : Nat} (h : Rd w B (.slice A n c) ((bl s).map vb)) : (convert 31 9 (.slice A n c)).run Tryd.prog w = .ok (.string s) w := by
  obtain ⟨A', c', hv, hc, hx⟩ := h
  injection hv with e1 e2 e3
  subst e1 e2 e3
  rw [List.length_map] at *
  rcases A with _ | ad
  · have hz : bl s = [] := by
      rcases hb : bl s with _ | ⟨y, ys⟩
      · rfl
      · obtain ⟨ad, h, _⟩ := hx (by rw [hb]; simp)
        cases h
    have hs0 : s = ⟨#[]⟩ := bl_inj (by rw [hz]; rfl)
    rw [hs0]
    exact run_convert_bytes_nil (P := Tryd.prog) (w := w) 31 5 Tryd.underlying31 Tryd.underlying5 _ _ 9 Tryd.underlying9
  · have hl : (bl s).length = s.data.toList.length := by rw [bl_length, Array.length_toList]; rfl
    have := run_convert_bytes_back (P := Tryd.prog) w 31 9 5 ad c s.data.toList Tryd.underlying31 Tryd.underlying5 Tryd.underlying9 (fun j hj => by
      obtain ⟨ad', e, _, hcell⟩ := hx (by omega)
      injection e with e
      subst e
      refine hcell j _ ?_
      unfold bl
      rw [List.getElem?_map, List.getElem?_map, List.getElem?_eq_getElem hj]
      rfl)
    rw [hl]
    exact this
end Go.Proofs.YtggnifejlheebaaDoor
namespace Go.Proofs.YtggnifejlheebaaDoor
open Go.RowKit Pl

theorem keeps_freeze {S : Nat → Prop} (w : World) (p : Addr) (n : Nat) (hp : S p.block) : Keeps S w (w.freeze p n) := by
  unfold World.freeze
  split
  · exact Keeps.refl _ _
  · exact ⟨rfl, rfl, rfl, by simp, fun k hk hn => by
      simp only [Array.getElem?_modify]
      rw [if_neg (fun e => hn (by rw [← e]; exact hp))]⟩
end Go.Proofs.YtggnifejlheebaaDoor
namespace Go.Proofs.YtggnifejlheebaaDoor
open Go.RowKit Pl

theorem cells4_at (c : Clm) (j : Nat) (hj : j < 4) : (cells4 c).toArray[j]? = some (.int .i64 ((l4 c).getD j 0)) := by
  have : j = 0 ∨ j = 1 ∨ j = 2 ∨ j = 3 := by omega
  rcases this with rfl | rfl | rfl | rfl <;> rfl
theorem okC_l4 (c : Clm) : okC c ↔ ∀ x ∈ l4 c, R40 x := by unfold okC l4; simp
theorem l4_get (c : Clm) (j : Nat) (hj : j < 4) : (l4 c)[j]? = some ((l4 c).getD j 0) := by
  have : j = 0 ∨ j = 1 ∨ j = 2 ∨ j = 3 := by omega
  rcases this with rfl | rfl | rfl | rfl <;> rfl

/- a number brought into the range from -m to m -/
def bnd (n : Int) (m : Nat) : Int := (arnd n (2 * m + 1) : Nat) - (m : Int)
theorem bnd_range (n : Int) (m : Nat) : -(m : Int) ≤ bnd n m ∧ bnd n m ≤ m := by
  have := arnd_lt n (2 * m + 1) (by omega)
  unfold bnd; omega
end Go.Proofs.YtggnifejlheebaaDoor
