/- block.valid: whether a block is valid. The plain law of the hash: words of bytes, and how they are mixed. hash.mix. hash.groups at byte slices: its iterator hands out the words. -/
import Derived.Test.YtgajmhpnilkmiaaDoorCodecKeysP13
import Derived.Deep.DeepCutAuto
import Derived.Deep.QuietTactic
import Derived.BigQuiet
import Derived.Test.YtgajmhpnilkmiaaDoorCodecKeysP04
import Derived.Test.YtgajmhpnilkmiaaDoorProg
import Derived.Test.YtgajmhpnilkmiaaDoorCodecKeysP05
import Derived.Test.YtgajmhpnilkmiaaDoorCodecKeysP03
namespace Go.Proofs.YtgajmhpnilkmiaaDoor
open Go.RowKit Pl

/- the least and the greatest parameter of a kind -/
def pLo (k : Nat) : Int := if k = 1 ∨ k = 3 then 1 else 0
def pHi (k : Nat) : Int := if k = 0 then 0 else if k = 1 ∨ k = 2 then 1073741824 else if k = 3 then 4096 else 1048576
/- the table of parameters, below block B -/
def PTab (w : World) (B : Nat) : Prop := 1 < B ∧ ∀ k, k < 5 → w.cell? ⟨1, k * 2, none⟩ = some (.int .i64 (pLo k)) ∧ w.cell? ⟨1, k * 2 + 1, none⟩ = some (.int .i64 (pHi k))
theorem PTab.keep {w w' : World} {B : Nat} {S : Nat → Prop} (h : PTab w B) (hk : Keeps S w w') (hs : ∀ i, i < B → ¬ S i) : PTab w' B := by
  have hb : w'.heap[1]? = w.heap[1]? := hk.block _ (World.block_lt_of_cell? w ⟨1, 0 * 2, none⟩ (h.2 0 (by omega)).1) (hs _ h.1)
  exact ⟨h.1, fun k hk => ⟨(World.cell?_of_block (a := ⟨1, k * 2, none⟩) hb).trans (h.2 k hk).1, (World.cell?_of_block (a := ⟨1, k * 2 + 1, none⟩) hb).trans (h.2 k hk).2⟩⟩
theorem PTab.grew {w w' : World} {B : Nat} (h : PTab w B) (hk : Grew w w') : PTab w' B := h.keep hk fun _ _ e => e
theorem PTab.more {w : World} {B B' : Nat} (h : PTab w B) (hB : B ≤ B') : PTab w B' := ⟨Nat.lt_of_lt_of_le h.1 hB, h.2⟩
theorem PTab.on {w w' : World} (h : PTab w w.heap.size) (hk : Grew w w') : PTab w' w'.heap.size := (h.grew hk).more hk.size

/- series, kind, parameter, cost -/
def okB (x : Clm) : Prop := 0 ≤ x.1 ∧ x.1 < 4096 ∧ 0 ≤ x.2.1 ∧ x.2.1 ≤ 4 ∧ pLo x.2.1.toNat ≤ x.2.2.1 ∧ x.2.2.1 ≤ pHi x.2.1.toNat ∧ 0 ≤ x.2.2.2 ∧ x.2.2.2 ≤ 4398046511104 ∧ (x.2.1 ≠ 0 ∨ x.2.2.2 = 0)
instance (x : Clm) : Decidable (okB x) := by unfold okB; infer_instance
def vbl (x : Clm) (v : Value) : Value := .agg #[.int .i64 x.1, .int .i64 x.2.1, .int .i64 x.2.2.1, .int .i64 x.2.2.2, v]

set_option maxHeartbeats 12800000 in
set_option maxRecDepth 100000 in
theorem valid_any (x : Clm) (A : Option Addr) (n c : Nat) (w : World) (hp : PTab w w.heap.size) :
    Calls Tryd.prog 51 #[vbl x (.slice A n c)] w fun e w' => e = .returned (.bool (decide (okB x))) ∧ Grew w w' := by
  obtain ⟨s, k, p, co⟩ := x
  unfold vbl
  simp only
  have hb0 := Box.new w 59 #[.int .i64 s, .int .i64 k, .int .i64 p, .int .i64 co, .slice A n c]
  have hG0 : Grew w (w.alloc (.cells #[.int .i64 s, .int .i64 k, .int .i64 p, .int .i64 co, .slice A n c] 59)) := (Grew.refl w).alloc _
  have hp1 := hp.grew hG0
  obtain ⟨d, hd⟩ : ∃ d, d = decide (okB (s, k, p, co)) := ⟨_, rfl⟩
  rw [← hd]
  have HD := Lib.hid hd
  clear hd hp
  go_enter Tryd.func51, Tryd.ntmps51
  go_upto_region 1 with fail
  generalize w.alloc (.cells #[.int .i64 s, .int .i64 k, .int .i64 p, .int .i64 co, .slice A n c] 59) = w1 at *
  have c0 : w1.cell? ⟨w.heap.size, 0, none⟩ = some (.int .i64 s) := hb0.cell 0
  have c1 : w1.cell? ⟨w.heap.size, 1, none⟩ = some (.int .i64 k) := hb0.cell 1
  have c2 : w1.cell? ⟨w.heap.size, 2, none⟩ = some (.int .i64 p) := hb0.cell 2
  have c3 : w1.cell? ⟨w.heap.size, 3, none⟩ = some (.int .i64 co) := hb0.cell 3
  clear hb0
  have no : ∀ P : Prop, ¬ okB (s, k, p, co) → d = false := fun _ h => HD.out.trans (decide_eq_false h)
  have NO := Lib.hid no
  clear no
  by_cases h1 : s < 0
  · have t1 : decide (s < 0) = true := by simp [h1]
    obtain rfl := NO.out True (fun h => by unfold okB at h; simp only at h; omega)
    go_wp2_with fail
    go_ret
    exact ⟨rfl, hG0⟩
  have t1 : decide (s < 0) = false := by simp; omega
  by_cases h2 : 4096 ≤ s
  · have t2 : decide (4096 ≤ s) = true := by simp [h2]
    obtain rfl := NO.out True (fun h => by unfold okB at h; simp only at h; omega)
    clear h1
    go_wp2_with fail
    go_ret
    exact ⟨rfl, hG0⟩
  have t2 : decide (4096 ≤ s) = false := by simp; omega
  by_cases h3 : k < 0
  · have t3 : decide (k < 0) = true := by simp [h3]
    obtain rfl := NO.out True (fun h => by unfold okB at h; simp only at h; omega)
    clear h1 h2
    go_wp2_with fail
    go_ret
    exact ⟨rfl, hG0⟩
  have t3 : decide (k < 0) = false := by simp; omega
  by_cases h4 : 4 < k
  · have t4 : decide (4 < k) = true := by simp [h4]
    obtain rfl := NO.out True (fun h => by unfold okB at h; simp only at h; omega)
    clear h1 h2 h3
    go_wp2_with fail
    go_ret
    exact ⟨rfl, hG0⟩
  have t4 : decide (4 < k) = false := by simp; omega
  obtain ⟨kn, rfl⟩ : ∃ kn : Nat, k = (kn : Int) := ⟨k.toNat, by omega⟩
  have hk5 : kn < 5 := by omega
  obtain ⟨pl, ph⟩ := hp1.2 kn hk5
  have i0 : (0 : Int) ≤ (kn : Int) := by omega
  have i5 : (kn : Int) < 5 := by omega
  have hokI : okB (s, (kn : Int), p, co) ↔ (pLo kn ≤ p ∧ p ≤ pHi kn ∧ 0 ≤ co ∧ co ≤ 4398046511104 ∧ ((kn : Int) ≠ 0 ∨ co = 0)) := by
    unfold okB; simp only [Int.toNat_natCast]; omega
  have HOK := Lib.hid hokI
  clear hokI h1 h2 h3 h4
  generalize pLo kn = lo at *
  generalize pHi kn = hi at *
  by_cases h5 : p < lo
  · have t5 : decide (p < lo) = true := by simp [h5]
    obtain rfl := NO.out True (fun h => by have := HOK.out.1 h; omega)
    clear h5
    go_wp2_with fail
    go_quiet (fail)
    go_wp2_with fail
    go_ret
    exact ⟨rfl, Keeps.drewN hG0 _⟩
  have t5 : decide (p < lo) = false := by simp; omega
  by_cases h6 : hi < p
  · have t6 : decide (hi < p) = true := by simp [h6]
    obtain rfl := NO.out True (fun h => by have := HOK.out.1 h; omega)
    clear h5 h6
    go_wp2_with fail
    go_quiet (fail)
    go_wp2_with fail
    go_ret
    exact ⟨rfl, Keeps.drewN hG0 _⟩
  have t6 : decide (hi < p) = false := by simp; omega
  by_cases h7 : co < 0
  · have t7 : decide (0 ≤ co) = false := by simp; omega
    obtain rfl := NO.out True (fun h => by have := HOK.out.1 h; omega)
    clear h5 h6 h7
    go_wp2_with fail
    go_quiet (fail)
    go_wp2_with fail
    go_ret
    exact ⟨rfl, Keeps.drewN hG0 _⟩
  have t7 : decide (0 ≤ co) = true := by simp; omega
  by_cases h8 : 4398046511104 < co
  · have t8 : decide (co ≤ 4398046511104) = false := by simp; omega
    obtain rfl := NO.out True (fun h => by have := HOK.out.1 h; omega)
    clear h5 h6 h7 h8
    go_wp2_with fail
    go_quiet (fail)
    go_wp2_with fail
    go_ret
    exact ⟨rfl, Keeps.drewN hG0 _⟩
  have t8 : decide (co ≤ 4398046511104) = true := by simp; omega
  by_cases h9 : kn = 0
  · have t9 : ((kn : Int) != 0) = false := by rw [bne_eq_false_iff_eq]; omega
    by_cases h10 : co = 0
    · have t10 : (co == 0) = true := by rw [beq_iff_eq]; exact h10
      obtain rfl : d = true := HD.out.trans (decide_eq_true (HOK.out.2 (by omega)))
      clear h5 h6 h7 h8 h9 h10
      go_wp2_with fail
      go_quiet (fail)
      go_wp2_with fail
      go_ret
      exact ⟨rfl, Keeps.drewN hG0 _⟩
    · have t10 : (co == 0) = false := by rw [beq_eq_false_iff_ne]; exact h10
      obtain rfl := NO.out True (fun h => by have := HOK.out.1 h; omega)
      clear h5 h6 h7 h8 h9 h10
      go_wp2_with fail
      go_quiet (fail)
      go_wp2_with fail
      go_ret
      exact ⟨rfl, Keeps.drewN hG0 _⟩
  · have t9 : ((kn : Int) != 0) = true := by rw [bne_iff_ne]; omega
    obtain rfl : d = true := HD.out.trans (decide_eq_true (HOK.out.2 (by omega)))
    clear h5 h6 h7 h8 h9
    go_wp2_with fail
    go_quiet (fail)
    go_wp2_with fail
    go_ret
    exact ⟨rfl, Keeps.drewN hG0 _⟩
end Go.Proofs.YtgajmhpnilkmiaaDoor
namespace Go.Proofs.YtgajmhpnilkmiaaDoor.Pl
open Go.RowKit

def mixN (s w : Nat) : Nat := ((s ^^^ w) * 11400714819323198485 % 18446744073709551616) ^^^ ((s ^^^ w) * 11400714819323198485 % 18446744073709551616 / 4294967296)
theorem mixN_lt (s w : Nat) : mixN s w < 18446744073709551616 := by
  unfold mixN
  generalize (s ^^^ w) * 11400714819323198485 = m
  have h1 : m % 18446744073709551616 < 2 ^ 64 := by omega
  have h2 : m % 18446744073709551616 / 4294967296 < 2 ^ 64 := by omega
  have := Nat.xor_lt_two_pow h1 h2
  omega
/- bytes, the least significant first -/
def leN : List Nat → Nat
  | [] => 0
  | x :: l => x + 256 * leN l
theorem leN_lt (l : List Nat) (h : Bytes l) : leN l < 256 ^ l.length := by
  induction l with
  | nil => simp [leN]
  | cons x l ih =>
    have h1 := h x (by simp)
    have h2 := ih (fun y hy => h y (by simp [hy]))
    rw [leN, List.length_cons, Nat.pow_succ]
    omega
theorem leN_snoc (l : List Nat) (x : Nat) : leN (l ++ [x]) = leN l + x * 256 ^ l.length := by
  induction l with
  | nil => simp [leN]
  | cons y l ih =>
    rw [List.cons_append, leN, leN, ih, List.length_cons, Nat.pow_succ, Nat.mul_add, ← Nat.add_assoc]
    congr 1
    rw [← Nat.mul_assoc, Nat.mul_comm 256 x, Nat.mul_assoc, Nat.mul_comm 256]
def chunk (bs : List Nat) (i : Nat) : List Nat := (bs.drop (8 * i)).take 8
theorem chunk_le (bs : List Nat) (i : Nat) : (chunk bs i).length ≤ 8 := List.length_take_le _ _
theorem chunk_length (bs : List Nat) (i : Nat) : (chunk bs i).length = min 8 (bs.length - 8 * i) := by unfold chunk; rw [List.length_take, List.length_drop]
theorem chunk_bytes {bs : List Nat} (h : Bytes bs) (i : Nat) : Bytes (chunk bs i) := fun x hx => h x (List.mem_of_mem_drop (List.mem_of_mem_take hx))
theorem chunk_lt {bs : List Nat} (h : Bytes bs) (i : Nat) : leN (chunk bs i) < 18446744073709551616 := by
  have h1 := leN_lt _ (chunk_bytes h i)
  have h2 : 256 ^ (chunk bs i).length ≤ 256 ^ 8 := Nat.pow_le_pow_right (by omega) (chunk_le bs i)
  have h3 : (256 : Nat) ^ 8 = 18446744073709551616 := by decide
  omega
def nwords (bs : List Nat) : Nat := (bs.length + 7) / 8
def words (bs : List Nat) : List Nat := (List.range (nwords bs)).map fun i => leN (chunk bs i)
theorem words_length (bs : List Nat) : (words bs).length = nwords bs := by simp [words]
theorem words_lt {bs : List Nat} (h : Bytes bs) : ∀ x ∈ words bs, x < 18446744073709551616 := fun x hx => by
  unfold words at hx
  obtain ⟨i, _, rfl⟩ := List.mem_map.1 hx
  exact chunk_lt h i
theorem words_take (bs : List Nat) (j : Nat) (hj : j < nwords bs) : (words bs).take (j + 1) = (words bs).take j ++ [leN (chunk bs j)] := by
  rw [List.take_succ_eq_append_getElem (by rw [words_length]; exact hj)]
  simp [words]
theorem chunk_take (bs : List Nat) (i t : Nat) (ht : t < 8) (h : 8 * i + t < bs.length) : (chunk bs i).take (t + 1) = (chunk bs i).take t ++ [bs.getD (8 * i + t) 0] := by
  have e : (chunk bs i)[t]? = some (bs.getD (8 * i + t) 0) := by
    unfold chunk
    rw [List.getElem?_take, if_pos ht, List.getElem?_drop, List.getD_eq_getElem?_getD, List.getElem?_eq_getElem h]
    rfl
  rw [List.take_add_one, e]
  rfl
theorem or_shift (a x k : Nat) (h : a < 2 ^ k) : a ||| (x * 2 ^ k) = a + x * 2 ^ k := by
  have := Nat.shiftLeft_add_eq_or_of_lt h x
  rw [Nat.shiftLeft_eq] at this
  rw [Nat.or_comm, ← this, Nat.add_comm]
/- the hash of a label and words; of a label and bytes -/
def mixAll (s : Nat) (l : List Nat) : Nat := l.foldl mixN s
theorem mixAll_nil (s : Nat) : mixAll s [] = s := by unfold mixAll; rw [List.foldl_nil]
theorem mixAll_snoc (s : Nat) (l : List Nat) (x : Nat) : mixAll s (l ++ [x]) = mixN (mixAll s l) x := by
  unfold mixAll
  rw [List.foldl_append, List.foldl_cons, List.foldl_nil]
def hashSum (label ws : List Nat) : Nat := mixN (mixAll (mixN (mixN (mixAll 0 (words label)) label.length) ws.length) ws) 0
def hashB (label bs : List Nat) : Nat := hashSum label (words bs ++ [bs.length])
theorem hashB_lt (label bs : List Nat) : hashB label bs < 18446744073709551616 := mixN_lt _ _
end Go.Proofs.YtgajmhpnilkmiaaDoor.Pl
namespace Go.Proofs.YtgajmhpnilkmiaaDoor
open Go.RowKit Pl

set_option maxRecDepth 100000 in
theorem mix_any (s x : Nat) (w : World) (hs : s < 18446744073709551616) (hx : x < 18446744073709551616) :
    Calls Tryd.prog 110 #[.int .u64 (s : Nat), .int .u64 (x : Nat)] w fun e w' => e = .returned (.int .u64 (mixN s x : Nat)) ∧ w = w' := by
  have h1 := u64_xor_nat s x hs hx
  have hf : bits BinOp.xor IntKind.u64 (((s ^^^ x : Nat) : Int) * 11400714819323198485 % 18446744073709551616) (((s ^^^ x : Nat) : Int) * 11400714819323198485 % 18446744073709551616 / 4294967296) = ((mixN s x : Nat) : Int) := by
    unfold mixN
    generalize s ^^^ x = y
    have e1 : (y : Int) * 11400714819323198485 % 18446744073709551616 = ((y * 11400714819323198485 % 18446744073709551616 : Nat) : Int) := by omega
    rw [e1]
    have hm : y * 11400714819323198485 % 18446744073709551616 < 18446744073709551616 := by omega
    generalize y * 11400714819323198485 % 18446744073709551616 = m at *
    have e2 : (m : Int) / 4294967296 = ((m / 4294967296 : Nat) : Int) := by omega
    rw [e2, u64_xor_nat _ _ hm (by omega)]
  have HF := Lib.hid hf
  clear hf
  go_enter Tryd.func110, Tryd.ntmps110
  go_wp2_with fail
  go_ret
  exact ⟨by rw [← HF.out]; rfl, rfl⟩
end Go.Proofs.YtgajmhpnilkmiaaDoor
namespace Go.Proofs.YtgajmhpnilkmiaaDoor
open Go.RowKit Go.Shelf Pl
attribute [local go_sem] Oper.semAt_some

abbrev W64 := Fin 18446744073709551616
def wordsF (bs : List Nat) : List W64 := (words bs).map fun x => Fin.ofNat 18446744073709551616 x
theorem wordsF_length (bs : List Nat) : (wordsF bs).length = nwords bs := by unfold wordsF; rw [List.length_map, words_length]
theorem wordsF_take {bs : List Nat} (h : Bytes bs) (j : Nat) (hj : j < nwords bs) : (wordsF bs).take (j + 1) = (wordsF bs).take j ++ [⟨leN (chunk bs j), chunk_lt h j⟩] := by
  unfold wordsF
  rw [← List.map_take, words_take bs j hj, List.map_append, List.map_take]
  congr 2
  exact congrArg (fun x => [x]) (Fin.ext (Nat.mod_eq_of_lt (chunk_lt h j)))
theorem wordsF_val {bs : List Nat} (h : Bytes bs) : (wordsF bs).map (fun x => x.val) = words bs := by
  unfold wordsF
  rw [List.map_map]
  conv => rhs; rw [← List.map_id (words bs)]
  apply List.map_congr_left
  intro x hx
  exact Nat.mod_eq_of_lt (words_lt h x hx)
/- what the iterator wants kept -/
def KpB (B0 Bn : Nat) (W W' : World) : Prop := ∀ k, (k < B0 ∨ k = Bn) → W'.heap[k]? = W.heap[k]?
theorem KpB.trans {B0 Bn : Nat} {A B C : World} (h : KpB B0 Bn A B) (k : KpB B0 Bn B C) : KpB B0 Bn A C := fun i hi => (k i hi).trans (h i hi)
theorem KpB.cell {B0 Bn : Nat} {W W' : World} (h : KpB B0 Bn W W') {o : Nat} : W'.cell? ⟨Bn, o, none⟩ = W.cell? ⟨Bn, o, none⟩ := World.cell?_of_block (h Bn (.inr rfl))
theorem KpB.rd {B0 Bn : Nat} {W W' : World} (h : KpB B0 Bn W W') {v : Value} {xs : List Value} (hr : Rd W B0 v xs) : Rd W' B0 v xs := by
  obtain ⟨A, c, hv, hc, hx⟩ := hr
  refine ⟨A, c, hv, hc, fun hn => ?_⟩
  obtain ⟨ad, e, hb, hcell⟩ := hx hn
  refine ⟨ad, e, hb, fun j u hu => (World.cell?_of_block ?_).trans (hcell j u hu)⟩
  rw [block_add]
  exact h _ (.inl hb)

theorem or_word (a x t : Nat) (ha : a < 256 ^ t) (hx : x < 256) (ht : t < 8) : bits BinOp.or IntKind.u64 (a : Int) (IntKind.u64.wrap ((x : Int) * 2 ^ (8 * t))) = ((a + x * 256 ^ t : Nat) : Int) := by
  have hp : (256 : Nat) ^ t = 2 ^ (8 * t) := by rw [Nat.pow_mul]
  rw [hp] at ha ⊢
  have e : (x : Int) * 2 ^ (8 * t) = ((x * 2 ^ (8 * t) : Nat) : Int) := by rw [Int.natCast_mul, Int.natCast_pow]; rfl
  have hq : (2 : Nat) ^ (8 * t) ≤ 2 ^ 56 := Nat.pow_le_pow_right (by omega) (by omega)
  have hl : x * 2 ^ (8 * t) < 18446744073709551616 := by
    have : x * 2 ^ (8 * t) ≤ 255 * 2 ^ 56 := Nat.mul_le_mul (by omega) hq
    omega
  have ha2 : a < 18446744073709551616 := by omega
  rw [e, IntKind.wrap_u64, Int.emod_eq_of_lt (by omega) (by omega), u64_or_nat _ _ ha2 hl, or_shift a x _ ha]

set_option maxRecDepth 100000 in
set_option maxHeartbeats 3200000 in
theorem grp_in (F : Fence) (n : Nat) (hf : F.fn 108) (hro : F.round = none) (hn : 1 ≤ n) (l Bn B0 : Nat) (A : Option Addr) (q c : Nat) (bs : List Nat) (hbb : Bytes bs) (hq : q = bs.length) (hsm : q ≤ 1000000000) (J Jx : List W64 → World → Prop)
    (hY : ∀ pre (x : W64) W, J pre W → pre.length < nwords bs → YieldAt F (n - 1) Tryd.prog l #[.int .u64 (x.val : Nat)] W fun e W' =>
      (e = .returned (.bool true) ∧ J (pre ++ [x]) W' ∧ KpB B0 Bn W W') ∨ (e = .returned (.bool false) ∧ Jx (pre ++ [x]) W'))
    (W : World) (hB : W.cell? ⟨Bn, 0, none⟩ = some (.slice A q c)) (hR : Rd W B0 (.slice A q c) (bs.map vb)) (h0 : J [] W) :
    CallsIn F n Tryd.prog 108 #[.func (.yield l) #[] #[], .pointer (some ⟨Bn, 0, none⟩)] W fun e W' => (∃ v, e = .returned v) ∧
      ((∃ xs, xs = wordsF bs ∧ J xs W') ∨ (∃ pre : List W64, True ∧ Jx pre W')) := by
  have HQ := Lib.hid hq
  have hnw : nwords bs = (q + 7) / 8 := by rw [hq]; rfl
  have HNW := Lib.hid hnw
  have HY := Lib.hid hY
  have HR := Lib.hid hR
  clear hq hnw hY hR
  refine callsIn_of_wp Tryd.func108 rfl hf ?_ hro
  simp only [Tryd.ntmps108, List.size_toArray, List.length_cons, List.length_nil, Nat.reduceAdd, Nat.reduceSub, Array.replicate_succ, Array.replicate_zero, List.push_toArray, List.append_toArray, List.nil_append, List.cons_append]
  gi_wp2
  gi_loopw [3] (fun i wr => ∃ j : Nat, j ≤ (q + 7) / 8 ∧ i = .int .i64 (8 * (j : Int)) ∧ wr.cell? ⟨Bn, 0, none⟩ = some (.slice A q c) ∧ Rd wr B0 (.slice A q c) (bs.map vb) ∧ J ((wordsF bs).take j) wr) (fun i _ => (8 * ((q : Int) + 8) - intOf i).toNat)
  case atStart => exact ⟨0, by omega, by simp, hB, HR.out, by simpa using h0⟩
  case round =>
    clear hB HR h0
    obtain ⟨j, hj, rfl, hB, hR, hJ⟩ := hrel
    have HR := Lib.hid hR
    have HJ := Lib.hid hJ
    clear hR hJ
    by_cases hlt : 8 * j < q
    · have t0 : decide (8 * (j : Int) < (q : Int)) = true := by simp; omega
      gi_wp2
      gi_loopw [4, 5] (fun a i wi => ∃ t : Nat, t ≤ 8 ∧ 8 * j + t ≤ q ∧ i = .int .i64 (8 * (j : Int) + (t : Int)) ∧ a = .int .u64 (leN ((chunk bs j).take t) : Nat) ∧ wi = wr) (fun _ i _ => (8 * (j : Int) + 9 - intOf i).toNat)
      case atStart => exact ⟨0, by omega, by omega, by simp, by simp [leN], rfl⟩
      case round =>
        obtain ⟨t, ht, htq, rfl, rfl, rfl⟩ := hrel
        by_cases hgo : 8 * j + t < q ∧ t < 8
        · obtain ⟨hg1, hg2⟩ := hgo
          obtain ⟨ad, u, rfl, hadb, hu, hcell⟩ := HR.out.at_ (j := 8 * j + t) (by rw [List.length_map, ← HQ.out]; exact hg1)
          have hx := hbb (bs.getD (8 * j + t) 0) (by rw [List.getD_eq_getElem?_getD, List.getElem?_eq_getElem (by rw [← HQ.out]; exact hg1)]; exact List.getElem_mem _)
          have hxe : u = .int .u8 (bs.getD (8 * j + t) 0 : Nat) := by
            rw [List.getElem?_map, List.getElem?_eq_getElem (by rw [← HQ.out]; exact hg1)] at hu
            rw [List.getD_eq_getElem?_getD, List.getElem?_eq_getElem (by rw [← HQ.out]; exact hg1)]
            exact (Option.some.inj hu).symm
          rw [hxe] at hcell
          have HCT := Lib.hid (chunk_take bs j t hg2 (by rw [← HQ.out]; exact hg1))
          have hal := leN_lt _ (show Bytes ((chunk bs j).take t) from fun y hy => chunk_bytes hbb j y (List.mem_of_mem_take hy))
          have hctl : ((chunk bs j).take t).length = t := by rw [List.length_take, chunk_length, ← HQ.out]; omega
          rw [hctl] at hal
          have HAL := Lib.hid hal
          have HCL := Lib.hid hctl
          have t1 : decide (8 * (j : Int) + (t : Int) < (q : Int)) = true := by simp; omega
          have t2 : decide (8 * (j : Int) + (t : Int) < 8 * (j : Int) + 8) = true := by simp; omega
          have n0 : (0 : Int) ≤ 8 * (j : Int) + (t : Int) := by omega
          have n1 : 8 * (j : Int) + (t : Int) < (q : Int) := by omega
          have n2 : (8 * (j : Int) + (t : Int)).toNat = 8 * j + t := by omega
          have n3 : 8 * (j : Int) + (t : Int) - 8 * (j : Int) = (t : Int) := by omega
          clear hu hxe hal hctl
          generalize bs.getD (8 * j + t) 0 = x at *
          obtain ⟨a, ha⟩ : ∃ a, a = leN ((chunk bs j).take t) := ⟨_, rfl⟩
          rw [← ha] at HAL ⊢
          have HA := Lib.hid ha
          clear ha
          have HOW := Lib.hid (or_word a x t HAL.out hx hg2)
          gi_wp2
          refine ⟨⟨t + 1, by omega, by omega, by go_num, ?_, trivial⟩, by simp [intOf]; omega⟩
          rw [HOW.out, HCT.out, leN_snoc, HCL.out, HA.out]
        · have hex : decide (8 * (j : Int) + (t : Int) < (q : Int)) = false ∨ (decide (8 * (j : Int) + (t : Int) < (q : Int)) = true ∧ decide ((t : Int) < 8) = false) := by
            by_cases h1 : 8 * j + t < q
            · exact .inr ⟨by simp; omega, by simp; omega⟩
            · exact .inl (by simp; omega)
          have hall : (chunk bs j).take t = chunk bs j := List.take_of_length_le (by rw [chunk_length, ← HQ.out]; omega)
          rw [hall]
          obtain ⟨fn, tmps, assign, body, hy, hRd⟩ := HY.out ((wordsF bs).take j) ⟨leN (chunk bs j), chunk_lt hbb j⟩ _ HJ.out (by rw [List.length_take, wordsF_length, HNW.out]; omega)
          have HWT := Lib.hid (wordsF_take hbb j (by rw [HNW.out]; omega))
          clear hall hgo
          simp only at hy
          rcases hex with h1 | ⟨h1, h2⟩
          · gi_wp2
            refine hRd.mono ?_
            rintro e W3 (⟨rfl, hJ3, hK3⟩ | ⟨rfl, hJx3⟩)
            · rw [← HWT.out] at hJ3
              have hB3 := hK3.cell.trans hB
              have hR3 := hK3.rd HR.out
              gi_wp2
              go_roundw
              case rel => exact ⟨j + 1, by omega, by go_num, hB3, hR3, hJ3⟩
              case measure => simp [intOf]; omega
            · gi_wp2
              refine bodyPost_ret (results_none rfl _ _ _) rfl ?_
              exact ⟨⟨_, rfl⟩, .inr ⟨_, trivial, hJx3⟩⟩
          · gi_wp2
            refine hRd.mono ?_
            rintro e W3 (⟨rfl, hJ3, hK3⟩ | ⟨rfl, hJx3⟩)
            · rw [← HWT.out] at hJ3
              have hB3 := hK3.cell.trans hB
              have hR3 := hK3.rd HR.out
              gi_wp2
              go_roundw
              case rel => exact ⟨j + 1, by omega, by go_num, hB3, hR3, hJ3⟩
              case measure => simp [intOf]; omega
            · gi_wp2
              refine bodyPost_ret (results_none rfl _ _ _) rfl ?_
              exact ⟨⟨_, rfl⟩, .inr ⟨_, trivial, hJx3⟩⟩
    · have t0 : decide (8 * (j : Int) < (q : Int)) = false := by simp; omega
      gi_wp2
      go_end0
      refine ⟨⟨_, rfl⟩, .inl ⟨_, rfl, ?_⟩⟩
      have := HJ.out
      rw [List.take_of_length_le (by rw [wordsF_length, HNW.out]; omega)] at this
      exact this

theorem grp_stops (F : Fence) (n : Nat) (hf : F.fn 108) (hro : F.round = none) (hn : 1 ≤ n) (Bn B0 : Nat) (A : Option Addr) (q c : Nat) (bs : List Nat) (hbb : Bytes bs) (hq : q = bs.length) (hsm : q ≤ 1000000000)
    (w : World) (hlt : Bn < w.heap.size) (hB0 : B0 ≤ w.heap.size) (hB : w.cell? ⟨Bn, 0, none⟩ = some (.slice A q c)) (hR : Rd w B0 (.slice A q c) (bs.map vb)) :
    SeqStopsK (α := W64) F n Tryd.prog 108 #[.pointer (some ⟨Bn, 0, none⟩)] (fun x => #[.int .u64 (x.val : Nat)]) (KpB B0 Bn) (fun xs => xs = wordsF bs) (fun _ => True) (nwords bs) w :=
  fun l J Jx W hW _ _ hY h0 => grp_in F n hf hro hn l Bn B0 A q c bs hbb hq hsm J Jx hY W ((hW.cell (p := ⟨Bn, 0, none⟩) hlt).trans hB)
    (KpB.rd (B0 := B0) (Bn := Bn) (fun k hk => hW.block k (by rcases hk with h | h <;> omega)) hR) h0

theorem groups_any (v : Value) (A : Option Addr) (q c : Nat) (hv : v = .slice A q c) (w : World) :
    Calls Tryd.prog 87 #[v] w fun e w' => e = .returned (.func (.func 108) #[] #[.pointer (some ⟨w.heap.size, 0, none⟩)]) ∧ w' = w.alloc (.cells #[.slice A q c] 33) := by
  subst hv
  go_enter Tryd.func87, Tryd.ntmps87
  go_wp2
  go_ret
  exact ⟨rfl, rfl⟩
end Go.Proofs.YtgajmhpnilkmiaaDoor
