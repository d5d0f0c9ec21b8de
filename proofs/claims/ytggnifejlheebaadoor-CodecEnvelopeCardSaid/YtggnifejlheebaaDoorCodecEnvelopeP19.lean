/- A slice of claims that came in, wherever it lies; append of it; Size. block.valid: whether a block is valid. The plain law of the hash: words of bytes, and how they are mixed. hash.mix. hash.groups at byte slices: its iterator hands out the words. hash.groups at strings: its iterator hands out the words. hash.Sum: the hash of a label and words. -/
import Derived.Test.YtggnifejlheebaaDoorCodecEnvelopeP16
import Derived.Test.YtggnifejlheebaaDoorCodecEnvelopeP18
import Derived.Deep.DeepCutAuto
import Derived.Deep.QuietTactic
import Derived.BigQuiet
import Derived.Test.YtggnifejlheebaaDoorCodecEnvelopeP06
import Derived.Test.YtggnifejlheebaaDoorProg
import Derived.Test.YtggnifejlheebaaDoorCodecEnvelopeP04
import Derived.Test.YtggnifejlheebaaDoorCodecEnvelopeP05
namespace Go.Proofs.YtggnifejlheebaaDoor
open Go.RowKit Pl

def RdG (w : World) (B : Nat) (v : Value) (cs : List Clm) : Prop :=
  ∃ A c, v = .slice A cs.length c ∧ cs.length ≤ c ∧ (0 < cs.length → ∃ ad, A = some ad ∧ ad.block < B ∧ ∀ j u, (flat cs)[j]? = some u → w.cell? (ad.add j) = some u)
section
variable {w w' : World} {B B' : Nat} {v : Value} {cs : List Clm} {S : Nat → Prop}
theorem RdC.rdG (h : RdC w B v cs) : RdG w B v cs := by
  obtain ⟨A, c, hv, hc, hx⟩ := h
  refine ⟨A, c, hv, hc, fun hn => ?_⟩
  obtain ⟨b, o, e, hb, hcell⟩ := hx hn
  exact ⟨⟨b, o, none⟩, e, hb, fun j u hu => by rw [add_none]; exact hcell j u hu⟩
theorem RdG.keep (h : RdG w B v cs) (hB : B ≤ w.heap.size) (hk : Keeps S w w') (hs : ∀ i, i < B → ¬ S i) : RdG w' B v cs := by
  obtain ⟨A, c, hv, hc, hx⟩ := h
  refine ⟨A, c, hv, hc, fun hn => ?_⟩
  obtain ⟨ad, e, hb, hcell⟩ := hx hn
  refine ⟨ad, e, hb, fun j u hu => (World.cell?_of_block ?_).trans (hcell j u hu)⟩
  rw [block_add]
  exact hk.block _ (by omega) (hs _ hb)
theorem RdG.grew (h : RdG w B v cs) (hB : B ≤ w.heap.size) (hk : Grew w w') : RdG w' B v cs := h.keep hB hk fun _ _ e => e
theorem RdG.more (h : RdG w B v cs) (hB : B ≤ B') : RdG w B' v cs := by
  obtain ⟨A, c, hv, hc, hx⟩ := h
  refine ⟨A, c, hv, hc, fun hn => ?_⟩
  obtain ⟨ad, e, hb, hcell⟩ := hx hn
  exact ⟨ad, e, by omega, hcell⟩
theorem RdG.form (h : RdG w B v cs) : ∃ A n c, v = .slice A n c ∧ n = cs.length ∧ n ≤ c := by
  obtain ⟨A, c, rfl, hc, _⟩ := h
  exact ⟨A, _, c, rfl, rfl, hc⟩
theorem RdG.some_ {A : Option Addr} {n c : Nat} (h : RdG w B (.slice A n c) cs) (hn : 0 < cs.length) : ∃ ad, A = some ad := by
  obtain ⟨A', c', hv, _, hx⟩ := h
  injection hv with hA
  subst hA
  obtain ⟨ad, e, _⟩ := hx hn
  exact ⟨ad, e⟩
theorem flat_take (cs : List Clm) (m j : Nat) (u : Value) (h : (flat (cs.take m))[j]? = some u) : (flat cs)[j]? = some u := by
  have e : flat cs = flat (cs.take m) ++ flat (cs.drop m) := by rw [← flat_append, List.take_append_drop]
  have hj : j < (flat (cs.take m)).length := (List.getElem?_eq_some_iff.1 h).1
  rw [e, List.getElem?_append_left hj]
  exact h
theorem RdG.take {A : Option Addr} {n c : Nat} (h : RdG w B (.slice A n c) cs) {m : Nat} (hm : m ≤ cs.length) : RdG w B (.slice A m c) (cs.take m) := by
  obtain ⟨A', c', hv, hc, hx⟩ := h
  injection hv with hA _ hcc
  subst hA hcc
  have hl : (cs.take m).length = m := by rw [List.length_take]; omega
  refine ⟨A, c, by rw [hl], by omega, fun h0 => ?_⟩
  obtain ⟨ad, rfl, hb, hcell⟩ := hx (by omega)
  exact ⟨ad, rfl, hb, fun j u hu => hcell j u (flat_take cs m j u hu)⟩
end
section
variable {w : World} {base : Nat} {v : Value} {cs : List Clm}
set_option maxRecDepth 100000 in
theorem run_appG (ty : TypeId) (hown : MineC w base v cs) {B : Nat} {sv : Value} {ds : List Clm} (hr : RdG w B sv ds)
    (hn : cs.length + ds.length ≤ 1099511627776) (hbase : base ≤ w.heap.size) :
    ∃ v' w', (Builtin.append_ #[29, 29] ty #[v, sv]).run Tryd.prog w = .ok v' w' ∧ MineC w' base v' (cs ++ ds) ∧ Keeps (fun i => v.ownBlock = some i) w w' ∧
      (v'.ownBlock = v.ownBlock ∨ v'.ownBlock = some w.heap.size) := by
  obtain ⟨i, hi, hz, hs, hby⟩ := info_parts infoC
  have hr0 := hr
  obtain ⟨A, c, rfl, hc, hx⟩ := hr
  rcases A with _ | ad
  · have hy : ds = [] := by
      rcases ds with _ | ⟨y, ys⟩
      · rfl
      · obtain ⟨ad, h, _⟩ := hx (by simp)
        cases h
    subst hy
    exact run_appC ty hown (B := B) ⟨none, c, rfl, hc, fun h => absurd h (by simp)⟩ hn hbase
  · have hcells : ∀ j u, (flat ds)[j]? = some u → w.cell? (ad.add j) = some u := by
      intro j u hu
      rcases ds with _ | ⟨y, ys⟩
      · simp [flat] at hu
      · obtain ⟨ad', h, _, hc⟩ := hx (by simp)
        injection h with h
        subst h
        exact hc j u hu
    obtain ⟨v', w', hrun, h2, h3, _, h5⟩ := run_append_own_at (P := Tryd.prog) w base 29 ty 52 i _ 4 32 Tryd.underlying29 hi hz hs hby rfl (by decide) v cs.length (flat cs) hown ad ds.length c (flat ds) (flat_length ds) hcells oneC (by unfold maxLen; omega) (by omega) hbase
    refine ⟨v', w', hrun, ?_, (Keeps.refl _ w).grown h3 (fun k e _ => e), h5⟩
    unfold MineC
    rw [List.length_append, flat_append]
    exact h2
theorem app_anyG {ops : Array Oper} {rest : List Oper} {o : Oper} {a : Act} {Q : Exit → Act → World → Prop} (hgd : o.guard = none) (s x : Operand)
    (ho : o.op = .call { callee := .builtin .append, args := #[s, x], argTypes := #[29, 29] })
    (hs : a.eval s = v) (hown : MineC w base v cs) {B : Nat} {sv : Value} {ds : List Clm} (hx : a.eval x = sv) (hr : RdG w B sv ds)
    (hn : cs.length + ds.length ≤ 1099511627776) (hbase : base ≤ w.heap.size)
    (h : ∀ A m cap w', (cs ++ ds).length = m → MineC w' base (.slice A m cap) (cs ++ ds) → Keeps (fun i => v.ownBlock = some i) w w' →
      ((Value.slice A m cap).ownBlock = v.ownBlock ∨ (Value.slice A m cap).ownBlock = some w.heap.size) → wpList Tryd.prog ops Q rest (a.put o.dst (.slice A m cap)) w') : wpList Tryd.prog ops Q (o :: rest) a w := by
  refine wpList_plain hgd fun K hK => ?_
  obtain ⟨v', w', hrun, h2, h3, h4⟩ := run_appG o.type hown hr hn hbase
  unfold Oper.wp execOp
  simp only [ho, resolve, invoke, builtin, Sem.run_bind, Sem.run_pure, Result.andThen_ok, List.map_toArray, List.map_cons, List.map_nil, hs, hx, hrun]
  obtain ⟨A, m, cap, rfl, hm, _⟩ := h2.slice
  exact hK _ _ (h A m cap w' hm.symm h2 h3 h4)
theorem Grew.appC {w0 w' : World} (h0 : Grew w0 w) (hown : MineC w w0.heap.size v cs) (hk : Keeps (fun i => v.ownBlock = some i) w w') : Grew w0 w' :=
  Keeps.then_ h0 hk fun i hi e => by have := (hown.lt i e).1; omega
end

/- how many bytes an encoding has -/
theorem encB_len (cs : List Clm) : (encB cs).length ≤ 200000 := by
  unfold encB
  split
  · rename_i h
    unfold encE at h
    split at h
    · omega
    · have := cbits_length cs
      rw [pack_length]; omega
  · simp
theorem encB_ok {cs : List Clm} (h : encE cs = 0) : encB cs = pack (cbits cs) := by unfold encB; rw [if_pos h]
theorem encB_no {cs : List Clm} (h : encE cs ≠ 0) : encB cs = [] := by unfold encB; rw [if_neg h]
/- what Encode returns, whether or not it succeeds -/
def EncAll (cs : List Clm) (w : World) (e : Ending) (w' : World) : Prop :=
  ∃ v, e = .returned (.tuple #[v, .int .i64 (encE cs)]) ∧ Mine w' w.heap.size 5 v ((encB cs).map vb) ∧ Grew w w'
theorem EncPost.all {cs : List Clm} {w w' : World} {e : Ending} (h : EncPost cs w e w') : EncAll cs w e w' := by
  obtain ⟨hg, ⟨h0, v, rfl, hm⟩ | ⟨h0, rfl⟩⟩ := h
  · exact ⟨v, by rw [h0], by rw [encB_ok h0]; exact hm, hg⟩
  · exact ⟨_, rfl, by rw [encB_no h0]; exact Mine.nil _ _ _, hg⟩
end Go.Proofs.YtggnifejlheebaaDoor
namespace Go.Proofs.YtggnifejlheebaaDoor
open Go.RowKit Pl

/- the least and the greatest parameter of a kind -/
def pLo (k : Nat) : Int := if k = 1 ∨ k = 3 then 1 else 0
def pHi (k : Nat) : Int := if k = 0 then 0 else if k = 1 ∨ k = 2 then 1073741824 else if k = 3 then 4096 else 1048576
/- series, kind, parameter, cost -/
def okB (x : Clm) : Prop := 0 ≤ x.1 ∧ x.1 < 4096 ∧ 0 ≤ x.2.1 ∧ x.2.1 ≤ 4 ∧ pLo x.2.1.toNat ≤ x.2.2.1 ∧ x.2.2.1 ≤ pHi x.2.1.toNat ∧ 0 ≤ x.2.2.2 ∧ x.2.2.2 ≤ 4398046511104 ∧ (x.2.1 ≠ 0 ∨ x.2.2.2 = 0)
instance (x : Clm) : Decidable (okB x) := by unfold okB; infer_instance
def vbl (x : Clm) (v : Value) : Value := .agg #[.int .i64 x.1, .int .i64 x.2.1, .int .i64 x.2.2.1, .int .i64 x.2.2.2, v]

end Go.Proofs.YtggnifejlheebaaDoor
namespace Go.Proofs.YtggnifejlheebaaDoor.Pl
open Go.RowKit

def mixN (s w : Nat) : Nat := ((s ^^^ w) * 11400714819323198485 % 18446744073709551616) ^^^ ((s ^^^ w) * 11400714819323198485 % 18446744073709551616 / 4294967296)
theorem mixN_lt (s w : Nat) : mixN s w < 18446744073709551616 := by
  unfold mixN
  generalize (s ^^^ w) * 11400714819323198485 = m
  have h1 : m % 18446744073709551616 < 2 ^ 64 := by omega
  have h2 : m % 18446744073709551616 / 4294967296 < 2 ^ 64 := by omega
  have := Nat.xor_lt_two_pow h1 h2
  omega
/- bytes, the least significant first -/
def leN : List Nat → Nat
  | [] => 0
  | x :: l => x + 256 * leN l
theorem leN_lt (l : List Nat) (h : Bytes l) : leN l < 256 ^ l.length := by
  induction l with
  | nil => simp [leN]
  | cons x l ih =>
    have h1 := h x (by simp)
    have h2 := ih (fun y hy => h y (by simp [hy]))
    rw [leN, List.length_cons, Nat.pow_succ]
    omega
theorem leN_snoc (l : List Nat) (x : Nat) : leN (l ++ [x]) = leN l + x * 256 ^ l.length := by
  induction l with
  | nil => simp [leN]
  | cons y l ih =>
    rw [List.cons_append, leN, leN, ih, List.length_cons, Nat.pow_succ, Nat.mul_add, ← Nat.add_assoc]
    congr 1
    rw [← Nat.mul_assoc, Nat.mul_comm 256 x, Nat.mul_assoc, Nat.mul_comm 256]
def chunk (bs : List Nat) (i : Nat) : List Nat := (bs.drop (8 * i)).take 8
theorem chunk_le (bs : List Nat) (i : Nat) : (chunk bs i).length ≤ 8 := List.length_take_le _ _
theorem chunk_length (bs : List Nat) (i : Nat) : (chunk bs i).length = min 8 (bs.length - 8 * i) := by unfold chunk; rw [List.length_take, List.length_drop]
theorem chunk_bytes {bs : List Nat} (h : Bytes bs) (i : Nat) : Bytes (chunk bs i) := fun x hx => h x (List.mem_of_mem_drop (List.mem_of_mem_take hx))
theorem chunk_lt {bs : List Nat} (h : Bytes bs) (i : Nat) : leN (chunk bs i) < 18446744073709551616 := by
  have h1 := leN_lt _ (chunk_bytes h i)
  have h2 : 256 ^ (chunk bs i).length ≤ 256 ^ 8 := Nat.pow_le_pow_right (by omega) (chunk_le bs i)
  have h3 : (256 : Nat) ^ 8 = 18446744073709551616 := by decide
  omega
def nwords (bs : List Nat) : Nat := (bs.length + 7) / 8
def words (bs : List Nat) : List Nat := (List.range (nwords bs)).map fun i => leN (chunk bs i)
theorem words_length (bs : List Nat) : (words bs).length = nwords bs := by simp [words]
theorem words_lt {bs : List Nat} (h : Bytes bs) : ∀ x ∈ words bs, x < 18446744073709551616 := fun x hx => by
  unfold words at hx
  obtain ⟨i, _, rfl⟩ := List.mem_map.1 hx
  exact chunk_lt h i
theorem words_take (bs : List Nat) (j : Nat) (hj : j < nwords bs) : (words bs).take (j + 1) = (words bs).take j ++ [leN (chunk bs j)] := by
  rw [List.take_succ_eq_append_getElem (by rw [words_length]; exact hj)]
  simp [words]
theorem chunk_take (bs : List Nat) (i t : Nat) (ht : t < 8) (h : 8 * i + t < bs.length) : (chunk bs i).take (t + 1) = (chunk bs i).take t ++ [bs.getD (8 * i + t) 0] := by
  have e : (chunk bs i)[t]? = some (bs.getD (8 * i + t) 0) := by
    unfold chunk
    rw [List.getElem?_take, if_pos ht, List.getElem?_drop, List.getD_eq_getElem?_getD, List.getElem?_eq_getElem h]
    rfl
  rw [List.take_add_one, e]
  rfl
theorem or_shift (a x k : Nat) (h : a < 2 ^ k) : a ||| (x * 2 ^ k) = a + x * 2 ^ k := by
  have := Nat.shiftLeft_add_eq_or_of_lt h x
  rw [Nat.shiftLeft_eq] at this
  rw [Nat.or_comm, ← this, Nat.add_comm]
/- the hash of a label and words; of a label and bytes -/
def mixAll (s : Nat) (l : List Nat) : Nat := l.foldl mixN s
theorem mixAll_nil (s : Nat) : mixAll s [] = s := by unfold mixAll; rw [List.foldl_nil]
theorem mixAll_snoc (s : Nat) (l : List Nat) (x : Nat) : mixAll s (l ++ [x]) = mixN (mixAll s l) x := by
  unfold mixAll
  rw [List.foldl_append, List.foldl_cons, List.foldl_nil]
def hashSum (label ws : List Nat) : Nat := mixN (mixAll (mixN (mixN (mixAll 0 (words label)) label.length) ws.length) ws) 0
def hashB (label bs : List Nat) : Nat := hashSum label (words bs ++ [bs.length])
theorem hashB_lt (label bs : List Nat) : hashB label bs < 18446744073709551616 := mixN_lt _ _
end Go.Proofs.YtggnifejlheebaaDoor.Pl
namespace Go.Proofs.YtggnifejlheebaaDoor
open Go.RowKit Pl

end Go.Proofs.YtggnifejlheebaaDoor
namespace Go.Proofs.YtggnifejlheebaaDoor
open Go.RowKit Go.Shelf Pl
attribute [local go_sem] Oper.semAt_some

abbrev W64 := Fin 18446744073709551616
def wordsF (bs : List Nat) : List W64 := (words bs).map fun x => Fin.ofNat 18446744073709551616 x
theorem wordsF_length (bs : List Nat) : (wordsF bs).length = nwords bs := by unfold wordsF; rw [List.length_map, words_length]
theorem wordsF_take {bs : List Nat} (h : Bytes bs) (j : Nat) (hj : j < nwords bs) : (wordsF bs).take (j + 1) = (wordsF bs).take j ++ [⟨leN (chunk bs j), chunk_lt h j⟩] := by
  unfold wordsF
  rw [← List.map_take, words_take bs j hj, List.map_append, List.map_take]
  congr 2
  exact congrArg (fun x => [x]) (Fin.ext (Nat.mod_eq_of_lt (chunk_lt h j)))
theorem wordsF_val {bs : List Nat} (h : Bytes bs) : (wordsF bs).map (fun x => x.val) = words bs := by
  unfold wordsF
  rw [List.map_map]
  conv => rhs; rw [← List.map_id (words bs)]
  apply List.map_congr_left
  intro x hx
  exact Nat.mod_eq_of_lt (words_lt h x hx)
/- what the iterator wants kept -/
def KpB (B0 Bn : Nat) (W W' : World) : Prop := ∀ k, (k < B0 ∨ k = Bn) → W'.heap[k]? = W.heap[k]?
theorem KpB.trans {B0 Bn : Nat} {A B C : World} (h : KpB B0 Bn A B) (k : KpB B0 Bn B C) : KpB B0 Bn A C := fun i hi => (k i hi).trans (h i hi)
theorem KpB.cell {B0 Bn : Nat} {W W' : World} (h : KpB B0 Bn W W') {o : Nat} : W'.cell? ⟨Bn, o, none⟩ = W.cell? ⟨Bn, o, none⟩ := World.cell?_of_block (h Bn (.inr rfl))
theorem KpB.rd {B0 Bn : Nat} {W W' : World} (h : KpB B0 Bn W W') {v : Value} {xs : List Value} (hr : Rd W B0 v xs) : Rd W' B0 v xs := by
  obtain ⟨A, c, hv, hc, hx⟩ := hr
  refine ⟨A, c, hv, hc, fun hn => ?_⟩
  obtain ⟨ad, e, hb, hcell⟩ := hx hn
  refine ⟨ad, e, hb, fun j u hu => (World.cell?_of_block ?_).trans (hcell j u hu)⟩
  rw [block_add]
  exact h _ (.inl hb)

theorem or_word (a x t : Nat) (ha : a < 256 ^ t) (hx : x < 256) (ht : t < 8) : bits BinOp.or IntKind.u64 (a : Int) (IntKind.u64.wrap ((x : Int) * 2 ^ (8 * t))) = ((a + x * 256 ^ t : Nat) : Int) := by
  have hp : (256 : Nat) ^ t = 2 ^ (8 * t) := by rw [Nat.pow_mul]
  rw [hp] at ha ⊢
  have e : (x : Int) * 2 ^ (8 * t) = ((x * 2 ^ (8 * t) : Nat) : Int) := by rw [Int.natCast_mul, Int.natCast_pow]; rfl
  have hq : (2 : Nat) ^ (8 * t) ≤ 2 ^ 56 := Nat.pow_le_pow_right (by omega) (by omega)
  have hl : x * 2 ^ (8 * t) < 18446744073709551616 := by
    have : x * 2 ^ (8 * t) ≤ 255 * 2 ^ 56 := Nat.mul_le_mul (by omega) hq
    omega
  have ha2 : a < 18446744073709551616 := by omega
  rw [e, IntKind.wrap_u64, Int.emod_eq_of_lt (by omega) (by omega), u64_or_nat _ _ ha2 hl, or_shift a x _ ha]

end Go.Proofs.YtggnifejlheebaaDoor
namespace Go.Proofs.YtggnifejlheebaaDoor
open Go.RowKit Go.Shelf Pl
attribute [local go_sem] Oper.semAt_some

end Go.Proofs.YtggnifejlheebaaDoor
namespace Go.Proofs.YtggnifejlheebaaDoor
open Go.RowKit Go.Shelf Pl
attribute [local go_sem] Oper.semAt_some

/- a word as an int -/
def toI (x : Nat) : Int := if x < 9223372036854775808 then (x : Int) else (x : Int) - 18446744073709551616
def vw (x : Nat) : Value := .int .i64 (toI x)
theorem toI_back {x : Nat} (h : x < 18446744073709551616) : IntKind.u64.wrap (toI x) = (x : Int) := by
  rw [IntKind.wrap_u64]; unfold toI; split <;> omega
theorem toI_of {x : Nat} (h : x < 18446744073709551616) : IntKind.i64.wrap (x : Int) = toI x := by
  rw [IntKind.wrap_i64]; unfold toI; split <;> omega
theorem toI_small {x : Nat} (h : x < 9223372036854775808) : toI x = (x : Int) := if_pos h
theorem toI_I64 {x : Nat} (h : x < 18446744073709551616) : -9223372036854775808 ≤ toI x ∧ toI x ≤ 9223372036854775807 := by unfold toI; split <;> omega

def accM (pre : List W64) : Nat := mixAll 0 (pre.map (fun x => x.val))
theorem accM_lt (pre : List W64) : accM pre < 18446744073709551616 := by
  unfold accM
  rcases List.eq_nil_or_concat pre with rfl | ⟨l, x, rfl⟩
  · simp [mixAll]
  · rw [List.concat_eq_append, List.map_append, List.map_cons, List.map_nil, mixAll_snoc]; exact mixN_lt _ _
theorem mixAll_lt {s : Nat} (hs : s < 18446744073709551616) (l : List Nat) : mixAll s l < 18446744073709551616 := by
  rcases List.eq_nil_or_concat l with rfl | ⟨l, x, rfl⟩
  · exact hs
  · rw [List.concat_eq_append, mixAll_snoc]; exact mixN_lt _ _
theorem accM_snoc (pre : List W64) (x : W64) : accM (pre ++ [x]) = mixN (accM pre) x.val := by
  unfold accM
  rw [List.map_append, List.map_cons, List.map_nil, mixAll_snoc]
theorem kpb_put {B0 Bn : Nat} {W : World} {l : Nat} {o o' : Obj} (hl : B0 ≤ l) (hn : Bn < l) (h : W.heap[l]? = some o) : KpB B0 Bn W (W.putObj l o') := fun k hk => by
  have hlt : l < W.heap.size := by
    rcases Nat.lt_or_ge l W.heap.size with h1 | h1
    · exact h1
    · rw [Array.getElem?_eq_none h1] at h; cases h
  have hkl : k < l := by omega
  exact (grownBy_putObj' W l o').block k (by omega) (fun e => by injection e with e; omega)
theorem kpb_set {B0 Bn : Nat} {W : World} {p : Addr} {u : Value} (h1 : B0 ≤ p.block) (h2 : p.block ≠ Bn) : KpB B0 Bn W (W.setCell p u) := fun k hk =>
  Below.heap_setCell W p u k (by omega)

end Go.Proofs.YtggnifejlheebaaDoor
