/- The hash tells two strings of bytes apart that differ in one byte. Blocks decoded again, and one byte turned: plain. The examples of chapter 18 hold. Lists of claims compared. Blocks compared: slices.Equal at claims, block.Equal, the reference's Same. The reference: the bytes of numbers and of byte slices (package wire's model). The reference of chapter 18: Whole. The reference of chapter 18: Core. The reference of chapter 18: Encode. -/
import Derived.Test.YtgajmhpnilkmiaaDoorBlockIdsP14
import Derived.Test.YtgajmhpnilkmiaaDoorBlockIdsP19
import Derived.Test.YtgajmhpnilkmiaaDoorBlockIdsP18
import Derived.Test.YtgajmhpnilkmiaaDoorBlockIdsP11
import Derived.Test.YtgajmhpnilkmiaaDoorBlockIdsP12
import Derived.Laws.StructEq
import Derived.Test.YtgajmhpnilkmiaaDoorBlockIdsP21
import Derived.Test.YtgajmhpnilkmiaaDoorBlockIdsP06
import Derived.Test.YtgajmhpnilkmiaaDoorBlockIdsP25
import Derived.Test.YtgajmhpnilkmiaaDoorBlockIdsP24
namespace Go.Proofs.YtgajmhpnilkmiaaDoor.Pl

theorem fold_inj {a b : Nat} (ha : a < 18446744073709551616) (hb : b < 18446744073709551616) (h : a ^^^ (a / 4294967296) = b ^^^ (b / 4294967296)) : a = b := by
  have key : ∀ x : Nat, x < 18446744073709551616 → (x ^^^ (x / 4294967296)) >>> 32 = x >>> 32 := fun x hx => by
    rw [Nat.shiftRight_xor_distrib]
    have : (x / 4294967296) >>> 32 = 0 := by rw [Nat.shiftRight_eq_div_pow]; omega
    rw [this, Nat.xor_zero]
  have h1 : (a ^^^ (a / 4294967296)) >>> 32 = (b ^^^ (b / 4294967296)) >>> 32 := by rw [h]
  rw [key a ha, key b hb, Nat.shiftRight_eq_div_pow, Nat.shiftRight_eq_div_pow] at h1
  have e : (2 : Nat) ^ 32 = 4294967296 := by decide
  rw [e] at h1
  rw [h1] at h
  have h2 := congrArg (· ^^^ (b / 4294967296)) h
  simpa [Nat.xor_assoc] using h2
theorem odd_inj {x y : Nat} (hx : x < 18446744073709551616) (hy : y < 18446744073709551616) (h : x * 11400714819323198485 % 18446744073709551616 = y * 11400714819323198485 % 18446744073709551616) : x = y := by
  have key : ∀ z : Nat, z < 18446744073709551616 → (z * 11400714819323198485 % 18446744073709551616) * 17428512612931826493 % 18446744073709551616 = z := fun z hz => by
    rw [Nat.mod_mul_mod, Nat.mul_assoc]
    have : 11400714819323198485 * 17428512612931826493 = 18446744073709551616 * (11400714819323198485 * 17428512612931826493 / 18446744073709551616) + 1 := by decide
    rw [this, Nat.mul_add, Nat.mul_one, ← Nat.mul_assoc, Nat.mul_comm z, Nat.mul_assoc, Nat.mul_add_mod]
    exact Nat.mod_eq_of_lt hz
  rw [← key x hx, ← key y hy, h]
theorem mixN_inj {s w s' w' : Nat} (h1 : s < 18446744073709551616) (h2 : w < 18446744073709551616) (h3 : s' < 18446744073709551616) (h4 : w' < 18446744073709551616) (h : mixN s w = mixN s' w') : s ^^^ w = s' ^^^ w' := by
  unfold mixN at h
  have a1 : s ^^^ w < 2 ^ 64 := Nat.xor_lt_two_pow (by omega) (by omega)
  have a2 : s' ^^^ w' < 2 ^ 64 := Nat.xor_lt_two_pow (by omega) (by omega)
  generalize s ^^^ w = x at *
  generalize s' ^^^ w' = y at *
  exact odd_inj (by omega) (by omega) (fold_inj (Nat.mod_lt _ (by omega)) (Nat.mod_lt _ (by omega)) h)
theorem mixN_left {s s' w : Nat} (h1 : s < 18446744073709551616) (h3 : s' < 18446744073709551616) (h2 : w < 18446744073709551616) (h : mixN s w = mixN s' w) : s = s' := by
  have h5 := mixN_inj h1 h2 h3 h2 h
  have h6 := congrArg (· ^^^ w) h5
  simpa [Nat.xor_assoc] using h6
theorem mixN_right {s w w' : Nat} (h1 : s < 18446744073709551616) (h2 : w < 18446744073709551616) (h3 : w' < 18446744073709551616) (h : mixN s w = mixN s w') : w = w' := by
  have h5 := mixN_inj h1 h2 h1 h3 h
  have h6 := congrArg (s ^^^ ·) h5
  simpa [← Nat.xor_assoc] using h6
theorem mixAll_cons (s x : Nat) (l : List Nat) : mixAll s (x :: l) = mixAll (mixN s x) l := by unfold mixAll; rw [List.foldl_cons]
theorem mixAll_lt (l : List Nat) : ∀ s, s < 18446744073709551616 → mixAll s l < 18446744073709551616 := by
  induction l with
  | nil => intro s hs; rw [mixAll_nil]; exact hs
  | cons x l ih => intro s _; rw [mixAll_cons]; exact ih _ (mixN_lt _ _)
theorem mixAll_left (l : List Nat) : ∀ s s', s < 18446744073709551616 → s' < 18446744073709551616 → (∀ x ∈ l, x < 18446744073709551616) → mixAll s l = mixAll s' l → s = s' := by
  induction l with
  | nil => intro s s' _ _ _ h; rw [mixAll_nil, mixAll_nil] at h; exact h
  | cons x l ih =>
    intro s s' hs hs' hl h
    rw [mixAll_cons, mixAll_cons] at h
    exact mixN_left hs hs' (hl x (by simp)) (ih _ _ (mixN_lt _ _) (mixN_lt _ _) (fun y hy => hl y (by simp [hy])) h)
theorem mixAll_set (l : List Nat) : ∀ s i x, s < 18446744073709551616 → (∀ x ∈ l, x < 18446744073709551616) → x < 18446744073709551616 → i < l.length → mixAll s (l.set i x) = mixAll s l → l[i]? = some x := by
  induction l with
  | nil => intro s i x _ _ _ h; simp at h
  | cons y l ih =>
    intro s i x hs hl hx hi h
    have hy := hl y (by simp)
    have hl' : ∀ x ∈ l, x < 18446744073709551616 := fun z hz => hl z (by simp [hz])
    cases i with
    | zero =>
      rw [List.set_cons_zero, mixAll_cons, mixAll_cons] at h
      have h1 := mixAll_left l _ _ (mixN_lt _ _) (mixN_lt _ _) hl' h
      have h2 := mixN_right hs hx hy h1
      rw [h2]; rfl
    | succ i =>
      rw [List.set_cons_succ, mixAll_cons, mixAll_cons] at h
      rw [List.getElem?_cons_succ]
      exact ih _ i x (mixN_lt _ _) hl' hx (by simpa using hi) h
theorem leN_inj (l : List Nat) : ∀ l' : List Nat, Bytes l → Bytes l' → l.length = l'.length → leN l = leN l' → l = l' := by
  induction l with
  | nil => intro l' _ _ h _; exact (List.eq_nil_of_length_eq_zero h.symm).symm
  | cons x l ih =>
    intro l' hb hb' h he
    rcases l' with _ | ⟨y, l'⟩
    · cases h
    · have h1 := hb x (by simp)
      have h2 := hb' y (by simp)
      rw [leN, leN] at he
      rw [ih l' (fun z hz => hb z (by simp [hz])) (fun z hz => hb' z (by simp [hz])) (by simpa using h) (by omega), show x = y by omega]
theorem chunk_getElem? (bs : List Nat) (i t : Nat) : (chunk bs i)[t]? = if t < 8 then bs[8 * i + t]? else none := by
  unfold chunk
  rw [List.getElem?_take, List.getElem?_drop]
theorem bytes_set {bs : List Nat} (h : Bytes bs) (j : Nat) {y : Nat} (hy : y < 256) : Bytes (bs.set j y) := fun x hx => by
  rcases List.mem_or_eq_of_mem_set hx with h1 | h1
  · exact h x h1
  · omega
theorem words_set (bs : List Nat) (j y : Nat) : words (bs.set j y) = (words bs).set (j / 8) (leN (chunk (bs.set j y) (j / 8))) := by
  apply List.ext_getElem?
  intro i
  rw [List.getElem?_set]
  have hn : nwords (bs.set j y) = nwords bs := by unfold nwords; rw [List.length_set]
  have hw : ∀ l : List Nat, (words l)[i]? = if i < nwords l then some (leN (chunk l i)) else none := fun l => by
    unfold words
    rw [List.getElem?_map]
    by_cases h : i < nwords l
    · rw [List.getElem?_range h, if_pos h]; rfl
    · rw [List.getElem?_eq_none (by simpa using h), if_neg h]; rfl
  rw [hw, hw, hn, words_length]
  by_cases hi : i < nwords bs
  · rw [if_pos hi]
    by_cases hj : j / 8 = i
    · subst hj
      rw [if_pos rfl, if_pos hi]
    · rw [if_neg hj, if_pos hi]
      congr 2
      apply List.ext_getElem?
      intro t
      rw [chunk_getElem?, chunk_getElem?]
      by_cases ht : t < 8
      · rw [if_pos ht, if_pos ht, List.getElem?_set, if_neg (by omega)]
      · rw [if_neg ht, if_neg ht]
  · rw [if_neg hi]
    by_cases hj : j / 8 = i
    · rw [if_pos hj, if_neg (by omega)]
    · rw [if_neg hj, if_neg hi]
theorem hashB_set (label : List Nat) {bs : List Nat} (h : Bytes bs) (hl : bs.length < 18446744073709551616) {j y : Nat} (hj : j < bs.length) (hy : y < 256) (he : hashB label (bs.set j y) = hashB label bs) : bs[j]? = some y := by
  unfold hashB hashSum at he
  rw [words_set, List.length_set] at he
  generalize hx : leN (chunk (bs.set j y) (j / 8)) = x at he
  have hxl : x < 18446744073709551616 := by rw [← hx]; exact chunk_lt (bytes_set h j hy) _
  have hlen : ((words bs).set (j / 8) x ++ [bs.length]).length = (words bs ++ [bs.length]).length := by simp
  rw [hlen] at he
  have hs := mixN_lt (mixN (mixAll 0 (words label)) label.length) (words bs ++ [bs.length]).length
  generalize mixN (mixN (mixAll 0 (words label)) label.length) (words bs ++ [bs.length]).length = s at he hs
  rw [mixAll_snoc, mixAll_snoc] at he
  have h1 := mixN_left (mixN_lt _ _) (mixN_lt _ _) (by decide) he
  have h2 := mixN_left (mixAll_lt _ _ hs) (mixAll_lt _ _ hs) hl h1
  have h3 := mixAll_set (words bs) s (j / 8) x hs (words_lt h) hxl (by rw [words_length]; unfold nwords; omega) h2
  have h4 : (words bs)[j / 8]? = some (leN (chunk bs (j / 8))) := by
    unfold words
    rw [List.getElem?_map, List.getElem?_range (by unfold nwords; omega)]; rfl
  rw [h4] at h3
  injection h3 with h3
  rw [← hx] at h3
  have h5 := leN_inj _ _ (chunk_bytes h _) (chunk_bytes (bytes_set h j hy) _) (by rw [chunk_length, chunk_length, List.length_set]) h3
  have h6 := congrArg (fun l => l[j % 8]?) h5
  simp only [chunk_getElem?] at h6
  rw [if_pos (by omega), if_pos (by omega), show 8 * (j / 8) + j % 8 = j by omega, List.getElem?_set, if_pos rfl, if_pos hj] at h6
  exact h6
end Go.Proofs.YtgajmhpnilkmiaaDoor.Pl
namespace Go.Proofs.YtgajmhpnilkmiaaDoor.Pl

theorem sU_vint {n : Nat} (hn : n < 18446744073709551616) (t : List Nat) : sU (.inr (vint n ++ t)) = (n, .inr t) := sU_ok (uP_vint0 hn t)
theorem sI_vint {n : Int} (hn : I64 n) (t : List Nat) : sI (.inr (vint (zig n) ++ t)) = (n, .inr t) := by
  unfold sI
  rw [sU_vint (zig_lt hn), unzig_zig]
theorem sRaw_rawB {c : List Nat} (hc : c.length < 18446744073709551616) (t : List Nat) : sRaw (.inr (rawB c ++ t)) = (c, .inr t) := by
  unfold rawB
  rw [List.append_assoc, sRaw_ok (sU_vint hc _) (by rw [List.length_append]; omega), List.take_left' rfl, List.drop_left' rfl]
theorem decB_whole {core : List Nat} (hc : core.length < 18446744073709551616) : decB (wholeB core) = inB core := by
  unfold decB wholeB
  have h1 := sRaw_rawB hc (vint (hashB blockL core))
  have h2 := sU_vint (hashB_lt blockL core) []
  rw [List.append_nil] at h2
  simp only [h1, h2]
  simp [sEnd]
theorem inB_core {x : Clm} (hx : I64 x.1 ∧ I64 x.2.1 ∧ I64 x.2.2.1 ∧ I64 x.2.2.2) {cb : List Nat} (hc : cb.length < 18446744073709551616) :
    inB (coreB x cb) = match refDecode cb with
      | none => .inl 2
      | some l => if okB x then .inr (x, l) else .inl 1 := by
  obtain ⟨x1, x2, x3, x4⟩ := hx
  unfold inB coreB
  have h5 := sRaw_rawB hc []
  rw [List.append_nil] at h5
  simp only [List.append_assoc, sI_vint x1, sI_vint x2, sI_vint x3, sI_vint x4, h5]
  simp [sEnd]
  cases refDecode cb <;> rfl
/- the set of one byte behind the first part -/
theorem set_tail (a b : List Nat) (k y : Nat) (h : a.length ≤ k) : (a ++ b).set k y = a ++ b.set (k - a.length) y := List.set_append_right _ _ h
theorem detect {core : List Nat} (hb : Bytes core) (hl : core.length < 18446744073709551616) {k y : Nat} (hk : (vint core.length).length ≤ k) (hk2 : k < (wholeB core).length) (hy : y < 256) (hne : (wholeB core)[k]? ≠ some y) :
    decB ((wholeB core).set k y) = .inl 2 ∨ decB ((wholeB core).set k y) = .inl 11 := by
  have hh := hashB_lt blockL core
  have hinj := fun j (hj : j < core.length) => hashB_set blockL hb hl (j := j) (y := y) hj hy
  have ew : wholeB core = vint core.length ++ (core ++ vint (hashB blockL core)) := by unfold wholeB rawB; rw [List.append_assoc]
  have hlen := congrArg List.length ew
  simp only [List.length_append] at hlen
  rw [ew] at hne ⊢
  rw [List.getElem?_append_right hk] at hne
  rw [set_tail _ _ _ _ hk]
  generalize hj : k - (vint core.length).length = j at *
  by_cases hc : j < core.length
  · right
    rw [List.getElem?_append_left hc] at hne
    have hd : hashB blockL core ≠ hashB blockL (core.set j y) := fun e => hne (hinj j hc e.symm)
    rw [List.set_append_left _ _ hc]
    have e1 : vint core.length ++ (core.set j y ++ vint (hashB blockL core)) = rawB (core.set j y) ++ (vint (hashB blockL core) ++ []) := by
      unfold rawB; rw [List.length_set, List.append_assoc, List.append_nil]
    rw [e1]
    generalize hashB blockL core = h at *
    have hcl : (core.set j y).length < 18446744073709551616 := by rw [List.length_set]; exact hl
    generalize core.set j y = core' at *
    unfold decB
    simp only [sRaw_rawB hcl, sU_vint hh]
    rw [if_neg (show ¬ (sEnd (.inr []) ≠ 0) by simp [sEnd]), if_pos hd]
  · have hc' : core.length ≤ j := by omega
    rw [List.getElem?_append_right hc'] at hne
    rw [set_tail _ _ _ _ hc', ← List.append_assoc]
    change decB (rawB core ++ _) = _ ∨ decB (rawB core ++ _) = _
    have hbs : Bytes ((vint (hashB blockL core)).set (j - core.length) y) := bytes_set (vint_bytes _) _ hy
    have hns : ∀ n t, uP 0 0 ((vint (hashB blockL core)).set (j - core.length) y) = .inr (n, t) → t = [] → n ≠ hashB blockL core := by
      intro n t hu ht hn
      have := uP_canon0 hbs hu
      rw [ht, List.append_nil, hn] at this
      apply hne
      have h3 : ((vint (hashB blockL core)).set (j - core.length) y)[j - core.length]? = (vint (hashB blockL core))[j - core.length]? := by rw [this]
      rw [List.getElem?_set, if_pos rfl, if_pos (by omega)] at h3
      exact h3.symm
    unfold decB
    simp only [sRaw_rawB hl]
    generalize hashB blockL core = h at *
    generalize (vint h).set (j - core.length) y = s' at *
    cases hu : uP 0 0 s' with
    | inl e =>
      left
      rw [sU_err hu]
      have := uP_err _ _ _ _ hu
      rw [if_pos (show sEnd (.inl e) ≠ 0 by show e ≠ 0; omega)]
    | inr p =>
      obtain ⟨n, t⟩ := p
      rw [sU_ok hu]
      rcases t with _ | ⟨z, t⟩
      · right
        have := hns n [] hu rfl
        rw [if_neg (show ¬ (sEnd (.inr []) ≠ 0) by simp [sEnd]), if_pos this]
      · left
        rw [if_pos (show sEnd (.inr (z :: t)) ≠ 0 by simp [sEnd])]
end Go.Proofs.YtgajmhpnilkmiaaDoor.Pl
namespace Go.Proofs.YtgajmhpnilkmiaaDoor
open Go.RowKit Pl

theorem ex_core : coreB (2, 3, 5, 1) [0] = [4, 6, 10, 2, 1, 0] := by
  unfold coreB rawB
  rw [show zig (2, 3, 5, 1).1 = 4 from rfl, show zig ((2, 3, 5, 1) : Clm).2.1 = 6 from rfl, show zig ((2, 3, 5, 1) : Clm).2.2.1 = 10 from rfl, show zig ((2, 3, 5, 1) : Clm).2.2.2 = 2 from rfl]
  rw [vint_lt (n := 4) (by omega), vint_lt (n := 6) (by omega), vint_lt (n := 10) (by omega), vint_lt (n := 2) (by omega), vint_lt (n := [0].length) (by decide)]
  rfl
theorem ex_cbits : pack (cbits []) = [0] := by decide +kernel
theorem ex_ok : okB (2, 3, 5, 1) := by decide
theorem ex_no : ¬ okB (0, 0, 0, 1) := by decide
theorem ex_E : bEncE (2, 3, 5, 1) [] = 0 := by unfold bEncE; rw [if_pos ex_ok]; rfl
theorem ex_B : bEncB (2, 3, 5, 1) [] = wholeB [4, 6, 10, 2, 1, 0] := by unfold bEncB; rw [if_pos ex_E, ex_cbits, ex_core]
theorem ex_F : bEncE (0, 0, 0, 1) [] = 1 := by unfold bEncE; rw [if_neg ex_no]

set_option maxHeartbeats 3200000 in
set_option maxRecDepth 100000 in
theorem lives18_any (w : World) (ht : Tab w w.heap.size) (hp : PTab w w.heap.size) :
    Calls Tryd.prog 30 #[] w fun e w' => e = .returned (.bool true) ∧ Grew w w' := by
  have h1 := bencode_any (2, 3, 5, 1) (.slice none 0 0) [] w (RdC.nil _ _) (by simp) ht hp
  unfold vbl at h1
  have H1 := Lib.hid h1
  have HT := Lib.hid ht
  have HP := Lib.hid hp
  clear h1 ht hp
  go_enter Tryd.func30, Tryd.ntmps30
  go_wp2_with fail
  refine H1.out.mono ?_
  rintro e w2 ⟨v2, rfl, k1, k2⟩
  rw [ex_E]
  rw [ex_B] at k1
  obtain ⟨A2, n2, c2, rfl, -⟩ := k1.slice
  have h2 := bencode_any (0, 0, 0, 1) (.slice none 0 0) [] w2 (RdC.nil _ _) (by simp) (HT.out.on k2) (HP.out.on k2)
  unfold vbl at h2
  have H2 := Lib.hid h2
  clear h2 H1
  go_wp2_with fail
  refine H2.out.mono ?_
  rintro e w3 ⟨v3, rfl, m1, m2⟩
  rw [ex_F]
  have hG3 := k2.trans m2
  have k3 := k1.grew m2
  clear H2 m1 m2 k1 k2
  have r3 : Rd (w3.alloc (.cells #[.int .u8 4, .int .u8 6, .int .u8 10, .int .u8 2, .int .u8 1, .int .u8 0] 5)) (w3.heap.size + 1) (.slice (some ⟨w3.heap.size, 0, none⟩) 6 6) ([4, 6, 10, 2, 1, 0].map vb) := Rd.laid w3 _ _
  have r4 := r3.alloc (by rw [World.size_alloc]; omega) (.cells #[.slice none 0 0] 35)
  have hW4 : WW ((w3.alloc (.cells #[.int .u8 4, .int .u8 6, .int .u8 10, .int .u8 2, .int .u8 1, .int .u8 0] 5)).alloc (.cells #[.slice none 0 0] 35)) (w3.heap.size + 1) (w3.heap.size + 1) (.slice none 0 0) [] := by
    have := Box.new (w3.alloc (.cells #[.int .u8 4, .int .u8 6, .int .u8 10, .int .u8 2, .int .u8 1, .int .u8 0] 5)) 35 #[.slice none 0 0]
    rw [World.size_alloc] at this
    exact ⟨this, Mine.nil _ _ _⟩
  have hG4 : Grew w ((w3.alloc (.cells #[.int .u8 4, .int .u8 6, .int .u8 10, .int .u8 2, .int .u8 1, .int .u8 0] 5)).alloc (.cells #[.slice none 0 0] 35)) := (hG3.alloc _).alloc _
  have hg4 : Grew w3 ((w3.alloc (.cells #[.int .u8 4, .int .u8 6, .int .u8 10, .int .u8 2, .int .u8 1, .int .u8 0] 5)).alloc (.cells #[.slice none 0 0] 35)) := ((Grew.refl w3).alloc _).alloc _
  have hs4 : ((w3.alloc (.cells #[.int .u8 4, .int .u8 6, .int .u8 10, .int .u8 2, .int .u8 1, .int .u8 0] 5)).alloc (.cells #[.slice none 0 0] 35)).heap.size = w3.heap.size + 2 := by simp
  have HRw := Lib.hid (wraw_any (w3.heap.size + 1) (w3.heap.size + 1) _ (.slice (some ⟨w3.heap.size, 0, none⟩) 6 6) [] [4, 6, 10, 2, 1, 0] _ hW4 (r4.more (by omega)) (fun k e => ⟨by (have : w3.heap.size = k := (by simpa [Value.ownBlock] using e)); omega, fun e2 => by cases e2⟩) (by simp) (by simp) (by omega))
  have k4 := k3.grew hg4
  have hbk : ∀ k, (Value.slice A2 n2 c2).ownBlock = some k → k < w3.heap.size := fun k e => (k3.lt k e).2
  have HBK := Lib.hid hbk
  clear r3 k3 hbk hg4
  go_wp2_with fail
  generalize ((w3.alloc (.cells #[.int .u8 4, .int .u8 6, .int .u8 10, .int .u8 2, .int .u8 1, .int .u8 0] 5)).alloc (.cells #[.slice none 0 0] 35)) = W4 at *
  refine HRw.out.mono ?_
  rintro e w5 ⟨rfl, u5, a5, b5, m5⟩
  have hsm : ∀ i, i < w3.heap.size + 1 → ¬ (i = w3.heap.size + 1 ∨ (Value.slice none 0 0).ownBlock = some i) := fun i hi e => by
    rcases e with e | e
    · omega
    · cases e
  have r5 := r4.keep (by omega) b5 hsm
  have k5 := k4.keep b5 (fun k e e2 => by
    rcases e2 with e2 | e2
    · have := HBK.out k e; omega
    · cases e2)
  have hs5 := b5.size
  have hw3 : w.heap.size ≤ w3.heap.size := hG3.size
  have hG5 := b5.grewW hG4 hW4 (by omega) (by omega)
  have HHb := Lib.hid (hbytes_any ⟨#[98, 108, 111, 99, 107]⟩ blockL _ [4, 6, 10, 2, 1, 0] w5 rfl blockL_bytes (by decide) (r5.more (by omega)) (by intro x hx; simp at hx; omega) (by simp))
  have hhl := hashB_lt blockL [4, 6, 10, 2, 1, 0]
  have HWB := Lib.hid (show wholeB [4, 6, 10, 2, 1, 0] = [] ++ rawB [4, 6, 10, 2, 1, 0] ++ vint (hashB blockL [4, 6, 10, 2, 1, 0]) by unfold wholeB; rw [List.nil_append])
  generalize hashB blockL [4, 6, 10, 2, 1, 0] = hv at *
  have hrl : (rawB [4, 6, 10, 2, 1, 0]).length ≤ 100 := by
    unfold rawB
    rw [List.length_append]
    have h6 : ([4, 6, 10, 2, 1, 0] : List Nat).length = 6 := rfl
    rw [h6]
    have := vint_len10 (n := 6) (by omega)
    omega
  clear HRw hW4 hG4 r4 k4 b5 m5 hsm
  go_wp2_with fail
  refine HHb.out.mono ?_
  rintro e w6 ⟨rfl, g6⟩
  have a6 : WW w6 (w3.heap.size + 1) (w3.heap.size + 1) u5 ([] ++ rawB [4, 6, 10, 2, 1, 0]) := ⟨a5.1.grew g6, a5.2.grew g6⟩
  have k6 := k5.grew g6
  have hG6 := hG5.trans g6
  have hs6 := g6.size
  have HU := Lib.hid (wuint_any (w3.heap.size + 1) (w3.heap.size + 1) u5 _ hv w6 a6 hhl (by rw [List.nil_append]; omega) (by omega))
  clear HHb a5 k5 hG5 r5
  go_wp2_with fail
  refine HU.out.mono ?_
  rintro e w7 ⟨rfl, u7, a7, b7, m7⟩
  rw [← HWB.out] at a7
  have hG7 := b7.grewW hG6 a6 (by omega) (by omega)
  have k7 := k6.keep b7 (fun k e e2 => by
    rcases e2 with e2 | e2
    · have := HBK.out k e; omega
    · have := HBK.out k e; have := (a6.2.lt k e2).1; omega)
  have hwl : (wholeB [4, 6, 10, 2, 1, 0]).length ≤ 200 := by
    rw [HWB.out, List.nil_append, List.length_append]
    have := vint_len10 hhl
    omega
  have HDn := Lib.hid (wwdone_any (w3.heap.size + 1) (w3.heap.size + 1) u7 _ w7 a7 (by omega))
  clear HU a6 b7 m7 k6 hG6
  generalize wholeB [4, 6, 10, 2, 1, 0] = wh at *
  go_wp2_with fail
  refine HDn.out.mono ?_
  rintro e w8 ⟨v8, rfl, d1, d2⟩
  have HS := Lib.hid (sameBytes_any _ v8 wh wh w8 (k7.grew d2).rd d1.rd (by omega) (by omega))
  rw [show decide (wh = wh) = true from by simp] at HS
  obtain ⟨A8, n8, c8, rfl, -⟩ := d1.slice
  have hG8 := hG7.trans d2
  clear HDn
  go_wp2_with fail
  refine HS.out.mono ?_
  rintro e w9 ⟨rfl, n9, h9⟩
  have g89 : Grew w8 w9 := by rw [h9]; exact (Grew.refl w8).drewN n9
  clear h9
  go_wp2_with fail
  go_ret
  exact ⟨rfl, hG8.trans g89⟩
end Go.Proofs.YtgajmhpnilkmiaaDoor
namespace Go.Proofs.YtgajmhpnilkmiaaDoor
open Go.RowKit Pl

theorem eq4 (c d : Clm) : decide (c = d) = (c.1 == d.1 && (c.2.1 == d.2.1 && (c.2.2.1 == d.2.2.1 && c.2.2.2 == d.2.2.2))) := by
  obtain ⟨a0, a1, a2, a3⟩ := c
  obtain ⟨b0, b1, b2, b3⟩ := d
  rw [Bool.eq_iff_iff]
  simp
theorem equal4 (c d : Clm) (w : World) : (Op.equalIn 10000 116 (.agg #[.int .i64 c.1, .int .i64 c.2.1, .int .i64 c.2.2.1, .int .i64 c.2.2.2]) (.agg #[.int .i64 d.1, .int .i64 d.2.1, .int .i64 d.2.2.1, .int .i64 d.2.2.2])).run Tryd.prog w = .ok (decide (c = d)) w := by
  rw [eq4]
  rw [run_equalIn_struct w 9999 116 _ _ (by kernel_rfl) (by kernel_rfl)]
  generalize c.1 = c0
  generalize c.2.1 = c1
  generalize c.2.2.1 = c2
  generalize c.2.2.2 = c3
  generalize d.1 = d0
  generalize d.2.1 = d1
  generalize d.2.2.1 = d2
  generalize d.2.2.2 = d3
  unfold Program.fieldsOf
  rw [Tryd.underlying116]
  simp [go_sem, Op.eqFields, part, Tryd.underlying3]
  by_cases h0 : c0 = d0 <;> by_cases h1 : c1 = d1 <;> by_cases h2 : c2 = d2 <;> by_cases h3 : c3 = d3 <;> simp [h0, h1, h2, h3]

theorem neq4 (c d : Clm) (b : Bool) (hb : decide (c = d) = b) (w : World) : (binOp .neq 116 (.agg #[.int .i64 c.1, .int .i64 c.2.1, .int .i64 c.2.2.1, .int .i64 c.2.2.2]) (.agg #[.int .i64 d.1, .int .i64 d.2.1, .int .i64 d.2.2.1, .int .i64 d.2.2.2])).run Tryd.prog w = .ok (.bool (!b)) w := by
  rw [run_neq_struct, equal4, hb]; rfl

end Go.Proofs.YtgajmhpnilkmiaaDoor
namespace Go.Proofs.YtgajmhpnilkmiaaDoor
open Go.RowKit Pl

end Go.Proofs.YtgajmhpnilkmiaaDoor
namespace Go.Proofs.YtgajmhpnilkmiaaDoor
open Go.RowKit Pl

end Go.Proofs.YtgajmhpnilkmiaaDoor
namespace Go.Proofs.YtgajmhpnilkmiaaDoor
open Go.RowKit Pl

end Go.Proofs.YtgajmhpnilkmiaaDoor
namespace Go.Proofs.YtgajmhpnilkmiaaDoor
open Go.RowKit Pl

end Go.Proofs.YtgajmhpnilkmiaaDoor
namespace Go.Proofs.YtgajmhpnilkmiaaDoor
open Go.RowKit Pl

theorem coreB_len (x : Clm) (cb : List Nat) (hx : I64 x.1 ∧ I64 x.2.1 ∧ I64 x.2.2.1 ∧ I64 x.2.2.2) (hl : cb.length ≤ 200000) : (coreB x cb).length ≤ 300000 := by
  obtain ⟨x1, x2, x3, x4⟩ := hx
  have l1 := vint_len10 (zig_lt x1)
  have l2 := vint_len10 (zig_lt x2)
  have l3 := vint_len10 (zig_lt x3)
  have l4 := vint_len10 (zig_lt x4)
  have l5 := vint_len10 (n := cb.length) (by omega)
  unfold coreB rawB
  simp only [List.length_append]
  omega
end Go.Proofs.YtgajmhpnilkmiaaDoor
