/- Rows of claims, four cells each: a row of the call's own; a slice that reads as a list of claims. -/
import Derived.Test.YtoojacpkbmgaeaaDoorLives
import Derived.Test.YtoojacpkbmgaeaaDoorCPlain
namespace Go.Proofs.YtoojacpkbmgaeaaDoor
open Go.RowKit Pl

def cells4 (c : Clm) : List Value := [.int .i64 c.1, .int .i64 c.2.1, .int .i64 c.2.2.1, .int .i64 c.2.2.2]
def vc (c : Clm) : Value := .agg (cells4 c).toArray
def flat (cs : List Clm) : List Value := cs.flatMap cells4
theorem flat_length (cs : List Clm) : (flat cs).length = cs.length * 4 := by
  induction cs with
  | nil => rfl
  | cons c cs ih => unfold flat at *; rw [List.flatMap_cons, List.length_append, ih, List.length_cons]; simp [cells4]; omega
theorem flat_append (cs ds : List Clm) : flat (cs ++ ds) = flat cs ++ flat ds := by unfold flat; rw [List.flatMap_append]
theorem flat_one (c : Clm) : flat [c] = cells4 c := by simp [flat]
theorem flat_at {cs : List Clm} {j k : Nat} (hj : j < cs.length) (hk : k < 4) : (flat cs)[j * 4 + k]? = (cells4 (cs.getD j zc))[k]? := by
  induction cs generalizing j with
  | nil => simp at hj
  | cons c cs ih =>
    unfold flat at *
    rw [List.flatMap_cons]
    cases j with
    | zero =>
      rw [List.getElem?_append_left (by simp [cells4]; omega)]
      simp
    | succ j =>
      rw [List.getElem?_append_right (by simp [cells4]; omega)]
      have : (j + 1) * 4 + k - (cells4 c).length = j * 4 + k := by simp [cells4]; omega
      rw [this, ih (by simpa using hj)]
      simp

def RdC (w : World) (B : Nat) (v : Value) (cs : List Clm) : Prop :=
  ∃ A c, v = .slice A cs.length c ∧ cs.length ≤ c ∧ (0 < cs.length → ∃ b o, A = some ⟨b, o, none⟩ ∧ b < B ∧ ∀ j u, (flat cs)[j]? = some u → w.cell? ⟨b, o + j, none⟩ = some u)
section
variable {w w' : World} {B B' : Nat} {v : Value} {cs : List Clm} {S : Nat → Prop}
theorem RdC.keep (h : RdC w B v cs) (hB : B ≤ w.heap.size) (hk : Keeps S w w') (hs : ∀ i, i < B → ¬ S i) : RdC w' B v cs := by
  obtain ⟨A, c, hv, hc, hx⟩ := h
  refine ⟨A, c, hv, hc, fun hn => ?_⟩
  obtain ⟨b, o, e, hb, hcell⟩ := hx hn
  exact ⟨b, o, e, hb, fun j u hu => (World.cell?_of_block (a := ⟨b, o + j, none⟩) (hk.block b (by omega) (hs _ hb))).trans (hcell j u hu)⟩
theorem RdC.grew (h : RdC w B v cs) (hB : B ≤ w.heap.size) (hk : Grew w w') : RdC w' B v cs := h.keep hB hk fun _ _ e => e
theorem RdC.more (h : RdC w B v cs) (hB : B ≤ B') : RdC w B' v cs := by
  obtain ⟨A, c, hv, hc, hx⟩ := h
  refine ⟨A, c, hv, hc, fun hn => ?_⟩
  obtain ⟨b, o, e, hb, hcell⟩ := hx hn
  exact ⟨b, o, e, by omega, hcell⟩
theorem RdC.form (h : RdC w B v cs) : ∃ A n c, v = .slice A n c ∧ n = cs.length ∧ n ≤ c := by
  obtain ⟨A, c, rfl, hc, _⟩ := h
  exact ⟨A, _, c, rfl, rfl, hc⟩
theorem RdC.nil (w : World) (B : Nat) : RdC w B (.slice none 0 0) [] := ⟨none, 0, rfl, Nat.le_refl _, fun h => absurd h (by simp)⟩
/- the four cells of an element -/
theorem RdC.at_ {A : Option Addr} {n c j : Nat} (h : RdC w B (.slice A n c) cs) (hj : j < cs.length) :
    ∃ b o, A = some ⟨b, o, none⟩ ∧ b < B ∧ ∀ k u, (cells4 (cs.getD j zc))[k]? = some u → w.cell? ⟨b, o + (j * 4 + k), none⟩ = some u := by
  obtain ⟨A', c', hv, _, hx⟩ := h
  injection hv with hA
  subst hA
  obtain ⟨b, o, rfl, hb, hc⟩ := hx (by omega)
  refine ⟨b, o, rfl, hb, fun k u hu => ?_⟩
  have hk : k < 4 := by simpa [cells4] using (List.getElem?_eq_some_iff.1 hu).1
  exact hc _ u (by rw [flat_at hj hk]; exact hu)
end
end Go.Proofs.YtoojacpkbmgaeaaDoor
