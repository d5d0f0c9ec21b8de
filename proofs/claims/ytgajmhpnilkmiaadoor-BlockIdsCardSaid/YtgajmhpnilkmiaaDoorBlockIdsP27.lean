/- Ids in plain words: the different numbers of a list in increasing order; the first error of a list of encodings. No condition. The contracts of maps.Keys, slices.Sorted and slices.Sort at ints, laid at this program. -/
import Derived.Test.YtgajmhpnilkmiaaDoorBlockIdsP26
import Derived.Maps.Views
import Derived.Maps.OwnSet
import Derived.Lib.SlKeysI
import Derived.Shelf.SlIterI.Nil
import Derived.Shelf.SortM.Plain
import Derived.Shelf.SortM.SortNone
import Derived.Test.YtgajmhpnilkmiaaDoorProg
namespace Go.Proofs.YtgajmhpnilkmiaaDoor
open Go.RowKit Pl Go.Maps

/- one number put in its place -/
def insU (x : Int) : List Int → List Int
  | [] => [x]
  | y :: ys => if y < x then y :: insU x ys else if y = x then y :: ys else x :: y :: ys
/- how many stand before its place -/
def kOf (x : Int) : List Int → Nat
  | [] => 0
  | y :: ys => if y < x then kOf x ys + 1 else 0
def idsR (l : List Int) : List Int := l.foldl (fun out x => insU x out) []
theorem idsR_snoc (l : List Int) (x : Int) : idsR (l ++ [x]) = insU x (idsR l) := by simp [idsR, List.foldl_append]
theorem kOf_eq {x : Int} : ∀ {out : List Int} {k : Nat}, (∀ j, j < k → out.getD j 0 < x) → k ≤ out.length → (k < out.length → ¬ out.getD k 0 < x) → kOf x out = k
  | [], k, _, hk, _ => by simp at hk; subst hk; rfl
  | y :: ys, 0, _, _, h2 => by
    have := h2 (by simp)
    simp at this
    unfold kOf; rw [if_neg (by omega)]
  | y :: ys, k + 1, h1, hk, h2 => by
    have h0 := h1 0 (by omega)
    simp at h0
    unfold kOf
    rw [if_pos h0, kOf_eq (k := k) (fun j hj => by have := h1 (j + 1) (by omega); simpa using this) (by simpa using hk) (fun h => by have := h2 (by simp; omega); simpa using this)]
theorem insU_there {x : Int} : ∀ {out : List Int}, kOf x out < out.length → out.getD (kOf x out) 0 = x → insU x out = out
  | [], h, _ => by simp at h
  | y :: ys, h, h2 => by
    unfold insU
    by_cases hy : y < x
    · have e : kOf x (y :: ys) = kOf x ys + 1 := by show (if y < x then _ else _) = _; rw [if_pos hy]
      rw [e] at h h2
      rw [if_pos hy, insU_there (by simpa using h) (by simpa using h2)]
    · have e : kOf x (y :: ys) = 0 := by show (if y < x then _ else _) = _; rw [if_neg hy]
      rw [e] at h2
      simp at h2
      rw [if_neg hy, if_pos h2]
theorem insU_new {x : Int} : ∀ {out : List Int}, ¬ (kOf x out < out.length ∧ out.getD (kOf x out) 0 = x) → insU x out = out.take (kOf x out) ++ [x] ++ out.drop (kOf x out)
  | [], _ => rfl
  | y :: ys, h => by
    unfold insU
    by_cases hy : y < x
    · have e : kOf x (y :: ys) = kOf x ys + 1 := by show (if y < x then _ else _) = _; rw [if_pos hy]
      rw [e] at h ⊢
      rw [if_pos hy, insU_new (by simpa using h)]
      simp
    · have e : kOf x (y :: ys) = 0 := by show (if y < x then _ else _) = _; rw [if_neg hy]
      rw [e] at h ⊢
      rw [if_neg hy, if_neg (by simpa using h)]
      simp
theorem mem_insU (x y : Int) : ∀ out : List Int, y ∈ insU x out ↔ y ∈ out ∨ y = x
  | [] => by simp [insU]
  | z :: zs => by
    unfold insU
    split
    · rw [List.mem_cons, mem_insU x y zs, List.mem_cons, or_assoc]
    · split
      · rename_i h1 h2
        subst h2
        simp only [List.mem_cons]
        constructor
        · exact fun h => .inl h
        · rintro (h | rfl)
          · exact h
          · exact .inl rfl
      · simp only [List.mem_cons]
        constructor
        · rintro (h | h | h)
          · exact .inr h
          · exact .inl (.inl h)
          · exact .inl (.inr h)
        · rintro ((h | h) | h)
          · exact .inr (.inl h)
          · exact .inr (.inr h)
          · exact .inl h
theorem insU_asc {x : Int} : ∀ {out : List Int}, out.Pairwise (· < ·) → (insU x out).Pairwise (· < ·)
  | [], _ => by simp [insU]
  | z :: zs, h => by
    obtain ⟨h1, h2⟩ := List.pairwise_cons.1 h
    unfold insU
    split
    · rename_i hz
      refine List.pairwise_cons.2 ⟨fun a ha => ?_, insU_asc h2⟩
      rcases (mem_insU x a zs).1 ha with h | rfl
      · exact h1 a h
      · exact hz
    · split
      · exact h
      · rename_i hz hne
        refine List.pairwise_cons.2 ⟨fun a ha => ?_, h⟩
        rcases List.mem_cons.1 ha with rfl | ha
        · omega
        · have := h1 a ha; omega
theorem idsR_aux (l : List Int) : ∀ out : List Int, out.Pairwise (· < ·) → (l.foldl (fun out x => insU x out) out).Pairwise (· < ·) ∧ ∀ y, y ∈ l.foldl (fun out x => insU x out) out ↔ y ∈ out ∨ y ∈ l := by
  induction l with
  | nil => exact fun out h => ⟨h, fun y => by simp⟩
  | cons x l ih =>
    intro out h
    obtain ⟨i1, i2⟩ := ih (insU x out) (insU_asc h)
    refine ⟨i1, fun y => ?_⟩
    rw [List.foldl_cons, i2, mem_insU, List.mem_cons, or_assoc]
theorem idsR_asc (l : List Int) : (idsR l).Pairwise (· < ·) := (idsR_aux l [] List.Pairwise.nil).1
theorem mem_idsR (l : List Int) (y : Int) : y ∈ idsR l ↔ y ∈ l := by
  have := (idsR_aux l [] List.Pairwise.nil).2 y
  simpa [idsR] using this
theorem insU_len (x : Int) : ∀ out : List Int, (insU x out).length ≤ out.length + 1
  | [] => by simp [insU]
  | z :: zs => by
    unfold insU
    have := insU_len x zs
    split
    · simp; omega
    · split <;> simp
theorem idsR_len (l : List Int) : (idsR l).length ≤ l.length := by
  have aux : ∀ (l out : List Int), (l.foldl (fun out x => insU x out) out).length ≤ out.length + l.length := by
    intro l
    induction l with
    | nil => intro out; simp
    | cons x l ih => intro out; rw [List.foldl_cons, List.length_cons]; have := ih (insU x out); have := insU_len x out; omega
  simpa [idsR] using aux l []

/- a map whose keys are the numbers of a list -/
def IMap (D : DataW Unit) (l : List Int) : Prop :=
  (∃ es, D = .map es ∧ ∀ p ∈ es, ∃ x, p.1 = Lit.int .i64 x) ∧ ∀ x : Int, Maps.has D (.int .i64 x) = decide (x ∈ l)
theorem IMap.empty : IMap (.map []) [] := ⟨⟨[], rfl, by simp⟩, fun x => rfl⟩
theorem mem_insert {H : Type} {x p : Lit × DataW H} : ∀ {l : List (Lit × DataW H)}, p ∈ DataW.insert x l → p = x ∨ p ∈ l
  | [], h => by simp [DataW.insert] at h; exact .inl h
  | y :: r, h => by
    unfold DataW.insert at h
    split at h
    · rcases List.mem_cons.1 h with h | h
      · exact .inl h
      · exact .inr h
    · rcases List.mem_cons.1 h with h | h
      · exact .inr (List.mem_cons.2 (.inl h))
      · rcases mem_insert h with h | h
        · exact .inl h
        · exact .inr (List.mem_cons.2 (.inr h))
theorem int_ne {s x : Int} (h : x ≠ s) : (Lit.int .i64 x) ≠ .int .i64 s := by
  intro e
  injection e with _ e
  exact h e
theorem IMap.put {D : DataW Unit} {l : List Int} (h : IMap D l) (s : Int) (d : DataW Unit) : IMap (D.put (.int .i64 s) d) (l ++ [s]) := by
  obtain ⟨⟨es, rfl, he⟩, h2⟩ := h
  refine ⟨⟨_, rfl, fun p hp => ?_⟩, fun x => ?_⟩
  · rcases mem_insert hp with rfl | hp
    · exact ⟨s, rfl⟩
    · exact he p (List.mem_filter.1 hp).1
  · by_cases e : x = s
    · subst e
      rw [has_put_same ⟨es, rfl⟩ (by trivial)]; simp
    · rw [has_put_other (int_ne e), h2 x]; simp [e]
theorem sort_asc {l : List Int} (h : l.Pairwise (· < ·)) : l.mergeSort leI = l :=
  List.mergeSort_of_pairwise (h.imp fun h => by simp only [leI, decide_eq_true_eq]; omega)
theorem IMap.sorted {D : DataW Unit} {l ss : List Int} (h : IMap D l) (ht : Tidy D) (hp : ss.Perm (intKeys D)) : ss.mergeSort leI = idsR l := by
  obtain ⟨⟨es, rfl, he⟩, h2⟩ := h
  obtain ⟨es', e, hd⟩ := ht
  injection e with e
  subst e
  have h3 := perm_intKeys hd he (ss := idsR l) ((idsR_asc l).imp fun h => by omega) (fun x => by rw [mem_idsR, h2 x]; simp)
  rw [mergeSort_of_perm_i (hp.trans h3.symm), sort_asc (idsR_asc l)]

/- the numbers that the encodings name; the first error -/
def sers (bss : List (List Nat)) : List Int := bss.map fun b => (oX (decB b)).1
def firstE : List (List Nat) → Int
  | [] => 0
  | b :: r => if oE (decB b) = 0 then firstE r else oE (decB b)
def idsOut (bss : List (List Nat)) : List Int := if firstE bss = 0 then idsR (sers bss) else []
theorem firstE_pre {pre r : List (List Nat)} (h : ∀ b ∈ pre, oE (decB b) = 0) : firstE (pre ++ r) = firstE r := by
  induction pre with
  | nil => rfl
  | cons b pre ih =>
    show (if oE (decB b) = 0 then firstE (pre ++ r) else _) = _
    rw [if_pos (h b (by simp)), ih fun b hb => h b (by simp [hb])]
theorem firstE_all {l : List (List Nat)} (h : ∀ b ∈ l, oE (decB b) = 0) : firstE l = 0 := by
  have := firstE_pre (r := []) h
  simpa [firstE] using this
theorem firstE_mid {pre post : List (List Nat)} {b : List Nat} (h : ∀ b ∈ pre, oE (decB b) = 0) (h' : ∀ b ∈ post, oE (decB b) = 0) : firstE (pre ++ [b] ++ post) = oE (decB b) := by
  rw [List.append_assoc, firstE_pre h]
  show (if oE (decB b) = 0 then firstE ([] ++ post) else _) = _
  split
  · rename_i h0
    rw [h0, List.nil_append, firstE_all h']
  · rfl
theorem idsOut_ok {l : List (List Nat)} (h : firstE l = 0) : idsOut l = idsR (sers l) := by unfold idsOut; rw [if_pos h]
theorem idsOut_err {l : List (List Nat)} (h : firstE l ≠ 0) : idsOut l = [] := by unfold idsOut; rw [if_neg h]
theorem idsOut_len (l : List (List Nat)) : (idsOut l).length ≤ l.length := by
  unfold idsOut
  split
  · have := idsR_len (sers l); unfold sers at this; rw [List.length_map] at this; exact this
  · simp
/- whatever Decode returns is a block's number -/
theorem inB_okB {core : List Nat} {x : Clm} {l : List Clm} (h : inB core = .inr (x, l)) : okB x := by
  unfold inB at h
  simp only at h
  split at h
  · cases h
  · split at h
    · cases h
    · split at h
      · rename_i hk
        injection h with h
        injection h with h1 h2
        subst h1
        exact hk
      · cases h
theorem oX_i64 (bs : List Nat) : I64 (oX (decB bs)).1 := by
  have hz : I64 0 := by constructor <;> decide
  rcases hd : decB bs with e | ⟨x, l⟩
  · exact hz
  · unfold decB at hd
    simp only at hd
    split at hd
    · cases hd
    · split at hd
      · cases hd
      · exact (okB_i64 (inB_okB hd)).1
end Go.Proofs.YtgajmhpnilkmiaaDoor
namespace Go.Proofs.YtgajmhpnilkmiaaDoor
open Go.Shelf
def keysA_ren : Go.Shelf.Ren := ⟨fun | 7 => 55 | 10 => 86 | n => n, fun | 23 => 104 | 26 => 3 | 3 => 4 | 28 => 107 | 0 => 0 | 27 => 106 | 33 => 141 | 4 => 4 | n => n, fun | n => n⟩
theorem keysA : Go.Proofs.SlLaysZI.n7 Tryd.prog keysA_ren := {
  mixed := by kernel_rfl
  f7 := ⟨Tryd.f55.name, by decide, Tryd.func55.trans (congrArg some (by kernel_rfl))⟩
  f10 := ⟨Tryd.f86.name, by decide, Tryd.func86.trans (congrArg some (by kernel_rfl))⟩
  t0 := Tryd.underlying0
  a0 := Tryd.isAgg0
  z0 := Tryd.sizeOf0
  v0 := Tryd.zeroValue0
  t4 := Tryd.underlying4
  a4 := Tryd.isAgg4
  z4 := Tryd.sizeOf4
  v4 := Tryd.zeroValue4
  t23 := Tryd.underlying104
  a23 := Tryd.isAgg104
  z23 := Tryd.sizeOf104
  v23 := Tryd.zeroValue104
  t26 := Tryd.underlying3
  a26 := Tryd.isAgg3
  z26 := Tryd.sizeOf3
  v26 := Tryd.zeroValue3
  t27 := Tryd.underlying106
  a27 := Tryd.isAgg106
  z27 := Tryd.sizeOf106
  v27 := Tryd.zeroValue106
  t28 := Tryd.underlying107
  a28 := Tryd.isAgg107
  z28 := Tryd.sizeOf107
  v28 := Tryd.zeroValue107
  t33 := Tryd.underlying141
  a33 := Tryd.isAgg141
  z33 := Tryd.sizeOf141
  v33 := Tryd.zeroValue141 }
def sortedA_ren : Go.Shelf.Ren := ⟨fun | 6 => 54 | 8 => 84 | 9 => 85 | 11 => 106 | 13 => 91 | 12 => 107 | 23 => 119 | 24 => 120 | 14 => 127 | 15 => 128 | 16 => 129 | 17 => 130 | 18 => 131 | 19 => 132 | 20 => 133 | 21 => 134 | 22 => 135 | 25 => 145 | 26 => 138 | 27 => 139 | 28 => 146 | 29 => 147 | 30 => 121 | 31 => 149 | n => n, fun | 26 => 3 | 28 => 107 | 24 => 22 | 0 => 0 | 3 => 3 | 37 => 133 | 48 => 178 | 50 => 86 | 4 => 4 | 40 => 172 | 39 => 171 | 45 => 83 | 5 => 5 | 9 => 9 | 51 => 192 | 55 => 195 | 57 => 203 | 58 => 204 | 33 => 141 | n => n, fun | n => n⟩
theorem sortedA : Go.Proofs.SlLaysZI.n6 Tryd.prog sortedA_ren := {
  mixed := by kernel_rfl
  f6 := ⟨Tryd.f54.name, by decide, Tryd.func54.trans (congrArg some (by kernel_rfl))⟩
  f8 := ⟨Tryd.f84.name, by decide, Tryd.func84.trans (congrArg some (by kernel_rfl))⟩
  f11 := ⟨Tryd.f106.name, by decide, Tryd.func106.trans (congrArg some (by kernel_rfl))⟩
  t0 := Tryd.underlying0
  a0 := Tryd.isAgg0
  z0 := Tryd.sizeOf0
  v0 := Tryd.zeroValue0
  t24 := Tryd.underlying22
  a24 := Tryd.isAgg22
  z24 := Tryd.sizeOf22
  v24 := Tryd.zeroValue22
  t26 := Tryd.underlying3
  a26 := Tryd.isAgg3
  z26 := Tryd.sizeOf3
  v26 := Tryd.zeroValue3
  t28 := Tryd.underlying107
  a28 := Tryd.isAgg107
  z28 := Tryd.sizeOf107
  v28 := Tryd.zeroValue107
  i26 := by kernel_rfl }
def sortA_ren : Go.Shelf.Ren := ⟨fun | 5 => 85 | 8 => 91 | 7 => 107 | 19 => 119 | 20 => 120 | 10 => 127 | 11 => 128 | 12 => 129 | 13 => 130 | 14 => 131 | 15 => 132 | 16 => 133 | 17 => 134 | 18 => 135 | 30 => 145 | 31 => 138 | 32 => 139 | 33 => 146 | 34 => 147 | 35 => 121 | 40 => 149 | n => n, fun | 23 => 22 | 25 => 3 | 3 => 3 | 32 => 133 | 22 => 22 | 0 => 0 | 44 => 178 | 46 => 86 | 4 => 4 | 36 => 172 | 35 => 171 | 41 => 83 | 5 => 5 | 9 => 9 | 53 => 192 | 57 => 195 | 63 => 203 | 64 => 204 | n => n, fun | n => n⟩
theorem sortA : Go.Proofs.SlLaysM.n5 Tryd.prog sortA_ren := {
  mixed := by kernel_rfl
  f5 := ⟨Tryd.f85.name, by decide, Tryd.func85.trans (congrArg some (by kernel_rfl))⟩
  f7 := ⟨Tryd.f107.name, by decide, Tryd.func107.trans (congrArg some (by kernel_rfl))⟩
  f8 := Tryd.func91.trans (congrArg some (by kernel_rfl))
  f10 := ⟨Tryd.f127.name, by decide, Tryd.func127.trans (congrArg some (by kernel_rfl))⟩
  f11 := ⟨Tryd.f128.name, by decide, Tryd.func128.trans (congrArg some (by kernel_rfl))⟩
  f12 := ⟨Tryd.f129.name, by decide, Tryd.func129.trans (congrArg some (by kernel_rfl))⟩
  f13 := ⟨Tryd.f130.name, by decide, Tryd.func130.trans (congrArg some (by kernel_rfl))⟩
  f14 := ⟨Tryd.f131.name, by decide, Tryd.func131.trans (congrArg some (by kernel_rfl))⟩
  f15 := ⟨Tryd.f132.name, by decide, Tryd.func132.trans (congrArg some (by kernel_rfl))⟩
  f16 := ⟨Tryd.f133.name, by decide, Tryd.func133.trans (congrArg some (by kernel_rfl))⟩
  f17 := ⟨Tryd.f134.name, by decide, Tryd.func134.trans (congrArg some (by kernel_rfl))⟩
  f18 := ⟨Tryd.f135.name, by decide, Tryd.func135.trans (congrArg some (by kernel_rfl))⟩
  f19 := Tryd.func119.trans (congrArg some (by kernel_rfl))
  f20 := Tryd.func120.trans (congrArg some (by kernel_rfl))
  f30 := ⟨Tryd.f145.name, by decide, Tryd.func145.trans (congrArg some (by kernel_rfl))⟩
  f31 := Tryd.func138.trans (congrArg some (by kernel_rfl))
  f32 := Tryd.func139.trans (congrArg some (by kernel_rfl))
  f33 := ⟨Tryd.f146.name, by decide, Tryd.func146.trans (congrArg some (by kernel_rfl))⟩
  f34 := ⟨Tryd.f147.name, by decide, Tryd.func147.trans (congrArg some (by kernel_rfl))⟩
  f35 := ⟨Tryd.f121.name, by decide, Tryd.func121.trans (congrArg some (by kernel_rfl))⟩
  f40 := ⟨Tryd.f149.name, by decide, Tryd.func149.trans (congrArg some (by kernel_rfl))⟩
  t0 := Tryd.underlying0
  a0 := Tryd.isAgg0
  z0 := Tryd.sizeOf0
  v0 := Tryd.zeroValue0
  t3 := Tryd.underlying3
  a3 := Tryd.isAgg3
  z3 := Tryd.sizeOf3
  v3 := Tryd.zeroValue3
  t4 := Tryd.underlying4
  a4 := Tryd.isAgg4
  z4 := Tryd.sizeOf4
  v4 := Tryd.zeroValue4
  t5 := Tryd.underlying5
  a5 := Tryd.isAgg5
  z5 := Tryd.sizeOf5
  v5 := Tryd.zeroValue5
  t9 := Tryd.underlying9
  a9 := Tryd.isAgg9
  z9 := Tryd.sizeOf9
  v9 := Tryd.zeroValue9
  t22 := Tryd.underlying22
  a22 := Tryd.isAgg22
  z22 := Tryd.sizeOf22
  v22 := Tryd.zeroValue22
  t23 := Tryd.underlying22
  a23 := Tryd.isAgg22
  z23 := Tryd.sizeOf22
  v23 := Tryd.zeroValue22
  t25 := Tryd.underlying3
  a25 := Tryd.isAgg3
  z25 := Tryd.sizeOf3
  v25 := Tryd.zeroValue3
  t32 := Tryd.underlying133
  a32 := Tryd.isAgg133
  z32 := Tryd.sizeOf133
  v32 := Tryd.zeroValue133
  t35 := Tryd.underlying171
  a35 := Tryd.isAgg171
  z35 := Tryd.sizeOf171
  v35 := Tryd.zeroValue171
  t36 := Tryd.underlying172
  a36 := Tryd.isAgg172
  z36 := Tryd.sizeOf172
  v36 := Tryd.zeroValue172
  t41 := Tryd.underlying83
  a41 := Tryd.isAgg83
  z41 := Tryd.sizeOf83
  v41 := Tryd.zeroValue83
  t44 := Tryd.underlying178
  a44 := Tryd.isAgg178
  z44 := Tryd.sizeOf178
  v44 := Tryd.zeroValue178
  t46 := Tryd.underlying86
  a46 := Tryd.isAgg86
  z46 := Tryd.sizeOf86
  v46 := Tryd.zeroValue86
  t53 := Tryd.underlying192
  a53 := Tryd.isAgg192
  z53 := Tryd.sizeOf192
  v53 := Tryd.zeroValue192
  t57 := Tryd.underlying195
  a57 := Tryd.isAgg195
  z57 := Tryd.sizeOf195
  v57 := Tryd.zeroValue195
  t63 := Tryd.underlying203
  a63 := Tryd.isAgg203
  z63 := Tryd.sizeOf203
  v63 := Tryd.zeroValue203
  t64 := Tryd.underlying204
  a64 := Tryd.isAgg204
  z64 := Tryd.sizeOf204
  v64 := Tryd.zeroValue204 }
end Go.Proofs.YtgajmhpnilkmiaaDoor
