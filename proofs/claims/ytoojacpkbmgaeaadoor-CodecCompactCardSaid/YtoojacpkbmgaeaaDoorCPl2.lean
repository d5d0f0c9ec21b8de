/- The numbers of a list of claims, claim by claim. -/
import Derived.Test.YtoojacpkbmgaeaaDoorRow4
namespace Go.Proofs.YtoojacpkbmgaeaaDoor
open Go.RowKit Pl

def q1 (cs : List Clm) (j : Nat) : Clm := (zc :: cs).getD j zc
def q2 (cs : List Clm) (j : Nat) : Clm := (zc :: zc :: cs).getD j zc
theorem q1_succ (cs : List Clm) (j : Nat) : q1 cs (j + 1) = cs.getD j zc := rfl
theorem q2_succ (cs : List Clm) (j : Nat) : q2 cs (j + 1) = q1 cs j := rfl
theorem cnums_take_aux (b a : Clm) (cs : List Clm) (j : Nat) (hj : j < cs.length) :
    (cnums b a cs).take (4 * (j + 1)) = (cnums b a cs).take (4 * j) ++ c4 ((b :: a :: cs).getD j zc) ((a :: cs).getD j zc) (cs.getD j zc) := by
  induction cs generalizing b a j with
  | nil => simp at hj
  | cons c cs ih =>
    cases j with
    | zero =>
      show (c4 b a c ++ cnums a c cs).take 4 = [] ++ c4 b a c
      rw [List.take_left' (by rfl), List.nil_append]
    | succ j =>
      have hc : (c4 b a c).length = 4 := rfl
      show (c4 b a c ++ cnums a c cs).take (4 * (j + 1 + 1)) = (c4 b a c ++ cnums a c cs).take (4 * (j + 1)) ++ _
      rw [List.take_append, List.take_append, hc, List.take_of_length_le (l := c4 b a c) (i := 4 * (j + 1 + 1)) (by rw [hc]; omega), List.take_of_length_le (l := c4 b a c) (i := 4 * (j + 1)) (by rw [hc]; omega)]
      rw [show 4 * (j + 1 + 1) - 4 = 4 * (j + 1) by omega, show 4 * (j + 1) - 4 = 4 * j by omega, ih a c j (by simpa using hj), List.append_assoc]
      rfl
theorem cnums_take (cs : List Clm) (j : Nat) (hj : j < cs.length) :
    (cnums zc zc cs).take (4 * (j + 1)) = (cnums zc zc cs).take (4 * j) ++ c4 (q2 cs j) (q1 cs j) (cs.getD j zc) := cnums_take_aux zc zc cs j hj
theorem codes_c4 (s : List Bool) (l : List Int) (b a c : Clm) : s ++ codes (l ++ c4 b a c) = s ++ codes l ++ code (n0 b a c) ++ code (n1 a c) ++ code (n2 a c) ++ code (n3 a c) := by
  simp [codes, c4]
/- the numbers as they are reckoned -/
theorem wn0 (b a c : Clm) : wrap64 (wrap64 (c.1 - wrap64 (2 * a.1)) + b.1) = n0 b a c := by unfold n0 wrap64; omega
theorem wn1 (a c : Clm) : wrap64 (wrap64 (c.2.1 - c.1) - wrap64 (a.2.1 - a.1)) = n1 a c := by unfold n1 wrap64; omega
theorem wn2 (a c : Clm) : wrap64 (c.2.2.1 - a.2.2.1) = n2 a c := rfl
theorem wn3 (a c : Clm) : wrap64 (wrap64 (c.2.2.2 - c.2.2.1) - wrap64 (a.2.2.2 - a.2.2.1)) = n3 a c := by unfold n3 wrap64; omega

/- four cells of a box, written anew -/
def put4 (w : World) (g : Nat) (c : Clm) : World :=
  (((w.setCell ⟨g, 0, none⟩ (.int .i64 c.1)).setCell ⟨g, 1, none⟩ (.int .i64 c.2.1)).setCell ⟨g, 2, none⟩ (.int .i64 c.2.2.1)).setCell ⟨g, 3, none⟩ (.int .i64 c.2.2.2)
theorem put4_keeps (w : World) (g : Nat) (c : Clm) : Keeps (fun i => i = g) w (put4 w g c) := by
  unfold put4
  exact ((((Keeps.refl (fun i => i = g) w).setCell (p := ⟨g, 0, none⟩) (.inl rfl) _).setCell (p := ⟨g, 1, none⟩) (.inl rfl) _).setCell (p := ⟨g, 2, none⟩) (.inl rfl) _).setCell (p := ⟨g, 3, none⟩) (.inl rfl) _
theorem Grew.put4 {w0 w : World} {g : Nat} (h : Grew w0 w) (hg : w0.heap.size ≤ g) (c : Clm) : Grew w0 (put4 w g c) :=
  Keeps.then_ h (put4_keeps w g c) fun i hi e => by omega
theorem Box.put4 {w : World} {g : Nat} {t : TypeId} {a : Clm} (h : Box w g t (cells4 a).toArray) (c : Clm) : Box (put4 w g c) g t (cells4 c).toArray := by
  have h1 := (((h.set_ 0 (.int .i64 c.1)).set_ 1 (.int .i64 c.2.1)).set_ 2 (.int .i64 c.2.2.1)).set_ 3 (.int .i64 c.2.2.2)
  unfold Go.Proofs.YtoojacpkbmgaeaaDoor.put4
  simpa [cells4] using h1
theorem BW.far {w w' : World} {S : Nat → Prop} {base g : Nat} {v : Value} {s : List Bool} (h : BW w base g v s) (hk : Keeps S w w') (hs : ¬ S g) (hv : ∀ k, v.ownBlock = some k → ¬ S k) : BW w' base g v s :=
  ⟨h.1.keep hk hs, h.2.keep hk hv⟩
/- a box of another type is none of the writer's -/
theorem BW.ne {w : World} {base g k : Nat} {v : Value} {s : List Bool} {cs : Array Value} (h : BW w base g v s) (hb : Box w k 24 cs) : k ≠ g ∧ v.ownBlock ≠ some k := by
  exact ⟨fun e => hb.ne_ h.1 (by decide) e, fun e => h.2.ne_box e hb (by decide) rfl⟩
theorem Box.keepW {w w' : World} {base g k : Nat} {v : Value} {s : List Bool} {cs : Array Value} (hb : Box w k 24 cs) (hB : BW w base g v s) (hk : KeepsW g v w w') : Box w' k 24 cs :=
  hb.keep hk fun e => by
    obtain ⟨h1, h2⟩ := hB.ne hb
    rcases e with e | e
    · exact h1 e
    · exact h2 e
theorem Box.four {w : World} {g : Nat} {t : TypeId} {c : Clm} (h : Box w g t (cells4 c).toArray) :
    w.cell? ⟨g, 0, none⟩ = some (.int .i64 c.1) ∧ w.cell? ⟨g, 1, none⟩ = some (.int .i64 c.2.1) ∧ w.cell? ⟨g, 2, none⟩ = some (.int .i64 c.2.2.1) ∧ w.cell? ⟨g, 3, none⟩ = some (.int .i64 c.2.2.2) :=
  ⟨h.cell 0, h.cell 1, h.cell 2, h.cell 3⟩
theorem RdC.four {w : World} {B : Nat} {cs : List Clm} {A : Option Addr} {n c j : Nat} (h : RdC w B (.slice A n c) cs) (hj : j < cs.length) :
    ∃ b o, A = some ⟨b, o, none⟩ ∧ b < B ∧ w.cell? ⟨b, o + j * 4, none⟩ = some (.int .i64 (cs.getD j zc).1) ∧ w.cell? ⟨b, o + j * 4 + 1, none⟩ = some (.int .i64 (cs.getD j zc).2.1) ∧
      w.cell? ⟨b, o + j * 4 + 2, none⟩ = some (.int .i64 (cs.getD j zc).2.2.1) ∧ w.cell? ⟨b, o + j * 4 + 3, none⟩ = some (.int .i64 (cs.getD j zc).2.2.2) := by
  obtain ⟨b, o, e, hb, hc⟩ := h.at_ hj
  exact ⟨b, o, e, hb, hc 0 _ rfl, hc 1 _ rfl, hc 2 _ rfl, hc 3 _ rfl⟩
end Go.Proofs.YtoojacpkbmgaeaaDoor
