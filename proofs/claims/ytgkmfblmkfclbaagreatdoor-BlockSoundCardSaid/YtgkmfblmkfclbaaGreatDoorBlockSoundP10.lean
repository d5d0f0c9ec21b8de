/- Rows of claims, four cells each: a row of the call's own; a slice that reads as a list of claims. The numbers of a list of claims, claim by claim. A row of claims of the call's own, and append on it. encodable, of the program and of the reference: whether the numbers of a claim are in range. -/
import Derived.Test.YtgkmfblmkfclbaaGreatDoorBlockSoundP09
namespace Go.Proofs.YtgkmfblmkfclbaaGreatDoor
open Go.RowKit Pl

def cells4 (c : Clm) : List Value := [.int .i64 c.1, .int .i64 c.2.1, .int .i64 c.2.2.1, .int .i64 c.2.2.2]
def vc (c : Clm) : Value := .agg (cells4 c).toArray
def flat (cs : List Clm) : List Value := cs.flatMap cells4
theorem flat_length (cs : List Clm) : (flat cs).length = cs.length * 4 := by
  induction cs with
  | nil => rfl
  | cons c cs ih => unfold flat at *; rw [List.flatMap_cons, List.length_append, ih, List.length_cons]; simp [cells4]; omega
theorem flat_append (cs ds : List Clm) : flat (cs ++ ds) = flat cs ++ flat ds := by unfold flat; rw [List.flatMap_append]
theorem flat_one (c : Clm) : flat [c] = cells4 c := by simp [flat]
theorem flat_at {cs : List Clm} {j k : Nat} (hj : j < cs.length) (hk : k < 4) : (flat cs)[j * 4 + k]? = (cells4 (cs.getD j zc))[k]? := by
  induction cs generalizing j with
  | nil => simp at hj
  | cons c cs ih =>
    unfold flat at *
    rw [List.flatMap_cons]
    cases j with
    | zero =>
      rw [List.getElem?_append_left (by simp [cells4]; omega)]
      simp
    | succ j =>
      rw [List.getElem?_append_right (by simp [cells4]; omega)]
      have : (j + 1) * 4 + k - (cells4 c).length = j * 4 + k := by simp [cells4]; omega
      rw [this, ih (by simpa using hj)]
      simp

def RdC (w : World) (B : Nat) (v : Value) (cs : List Clm) : Prop :=
  ∃ A c, v = .slice A cs.length c ∧ cs.length ≤ c ∧ (0 < cs.length → ∃ b o, A = some ⟨b, o, none⟩ ∧ b < B ∧ ∀ j u, (flat cs)[j]? = some u → w.cell? ⟨b, o + j, none⟩ = some u)
section
variable {w w' : World} {B B' : Nat} {v : Value} {cs : List Clm} {S : Nat → Prop}
theorem RdC.keep (h : RdC w B v cs) (hB : B ≤ w.heap.size) (hk : Keeps S w w') (hs : ∀ i, i < B → ¬ S i) : RdC w' B v cs := by
  obtain ⟨A, c, hv, hc, hx⟩ := h
  refine ⟨A, c, hv, hc, fun hn => ?_⟩
  obtain ⟨b, o, e, hb, hcell⟩ := hx hn
  exact ⟨b, o, e, hb, fun j u hu => (World.cell?_of_block (a := ⟨b, o + j, none⟩) (hk.block b (by omega) (hs _ hb))).trans (hcell j u hu)⟩
theorem RdC.grew (h : RdC w B v cs) (hB : B ≤ w.heap.size) (hk : Grew w w') : RdC w' B v cs := h.keep hB hk fun _ _ e => e
theorem RdC.more (h : RdC w B v cs) (hB : B ≤ B') : RdC w B' v cs := by
  obtain ⟨A, c, hv, hc, hx⟩ := h
  refine ⟨A, c, hv, hc, fun hn => ?_⟩
  obtain ⟨b, o, e, hb, hcell⟩ := hx hn
  exact ⟨b, o, e, by omega, hcell⟩
theorem RdC.form (h : RdC w B v cs) : ∃ A n c, v = .slice A n c ∧ n = cs.length ∧ n ≤ c := by
  obtain ⟨A, c, rfl, hc, _⟩ := h
  exact ⟨A, _, c, rfl, rfl, hc⟩
theorem RdC.nil (w : World) (B : Nat) : RdC w B (.slice none 0 0) [] := ⟨none, 0, rfl, Nat.le_refl _, fun h => absurd h (by simp)⟩
/- the four cells of an element -/
theorem RdC.at_ {A : Option Addr} {n c j : Nat} (h : RdC w B (.slice A n c) cs) (hj : j < cs.length) :
    ∃ b o, A = some ⟨b, o, none⟩ ∧ b < B ∧ ∀ k u, (cells4 (cs.getD j zc))[k]? = some u → w.cell? ⟨b, o + (j * 4 + k), none⟩ = some u := by
  obtain ⟨A', c', hv, _, hx⟩ := h
  injection hv with hA
  subst hA
  obtain ⟨b, o, rfl, hb, hc⟩ := hx (by omega)
  refine ⟨b, o, rfl, hb, fun k u hu => ?_⟩
  have hk : k < 4 := by simpa [cells4] using (List.getElem?_eq_some_iff.1 hu).1
  exact hc _ u (by rw [flat_at hj hk]; exact hu)
end
end Go.Proofs.YtgkmfblmkfclbaaGreatDoor
namespace Go.Proofs.YtgkmfblmkfclbaaGreatDoor
open Go.RowKit Pl

def q1 (cs : List Clm) (j : Nat) : Clm := (zc :: cs).getD j zc
def q2 (cs : List Clm) (j : Nat) : Clm := (zc :: zc :: cs).getD j zc
theorem q1_succ (cs : List Clm) (j : Nat) : q1 cs (j + 1) = cs.getD j zc := rfl
theorem q2_succ (cs : List Clm) (j : Nat) : q2 cs (j + 1) = q1 cs j := rfl
theorem cnums_take_aux (b a : Clm) (cs : List Clm) (j : Nat) (hj : j < cs.length) :
    (cnums b a cs).take (4 * (j + 1)) = (cnums b a cs).take (4 * j) ++ c4 ((b :: a :: cs).getD j zc) ((a :: cs).getD j zc) (cs.getD j zc) := by
  induction cs generalizing b a j with
  | nil => simp at hj
  | cons c cs ih =>
    cases j with
    | zero =>
      show (c4 b a c ++ cnums a c cs).take 4 = [] ++ c4 b a c
      rw [List.take_left' (by rfl), List.nil_append]
    | succ j =>
      have hc : (c4 b a c).length = 4 := rfl
      show (c4 b a c ++ cnums a c cs).take (4 * (j + 1 + 1)) = (c4 b a c ++ cnums a c cs).take (4 * (j + 1)) ++ _
      rw [List.take_append, List.take_append, hc, List.take_of_length_le (l := c4 b a c) (i := 4 * (j + 1 + 1)) (by rw [hc]; omega), List.take_of_length_le (l := c4 b a c) (i := 4 * (j + 1)) (by rw [hc]; omega)]
      rw [show 4 * (j + 1 + 1) - 4 = 4 * (j + 1) by omega, show 4 * (j + 1) - 4 = 4 * j by omega, ih a c j (by simpa using hj), List.append_assoc]
      rfl
theorem cnums_take (cs : List Clm) (j : Nat) (hj : j < cs.length) :
    (cnums zc zc cs).take (4 * (j + 1)) = (cnums zc zc cs).take (4 * j) ++ c4 (q2 cs j) (q1 cs j) (cs.getD j zc) := cnums_take_aux zc zc cs j hj
theorem codes_c4 (s : List Bool) (l : List Int) (b a c : Clm) : s ++ codes (l ++ c4 b a c) = s ++ codes l ++ code (n0 b a c) ++ code (n1 a c) ++ code (n2 a c) ++ code (n3 a c) := by
  simp [codes, c4]
/- the numbers as they are reckoned -/
theorem wn0 (b a c : Clm) : wrap64 (wrap64 (c.1 - wrap64 (2 * a.1)) + b.1) = n0 b a c := by unfold n0 wrap64; omega
theorem wn1 (a c : Clm) : wrap64 (wrap64 (c.2.1 - c.1) - wrap64 (a.2.1 - a.1)) = n1 a c := by unfold n1 wrap64; omega
theorem wn2 (a c : Clm) : wrap64 (c.2.2.1 - a.2.2.1) = n2 a c := rfl
theorem wn3 (a c : Clm) : wrap64 (wrap64 (c.2.2.2 - c.2.2.1) - wrap64 (a.2.2.2 - a.2.2.1)) = n3 a c := by unfold n3 wrap64; omega

/- four cells of a box, written anew -/
def put4 (w : World) (g : Nat) (c : Clm) : World :=
  (((w.setCell ⟨g, 0, none⟩ (.int .i64 c.1)).setCell ⟨g, 1, none⟩ (.int .i64 c.2.1)).setCell ⟨g, 2, none⟩ (.int .i64 c.2.2.1)).setCell ⟨g, 3, none⟩ (.int .i64 c.2.2.2)
theorem put4_keeps (w : World) (g : Nat) (c : Clm) : Keeps (fun i => i = g) w (put4 w g c) := by
  unfold put4
  exact ((((Keeps.refl (fun i => i = g) w).setCell (p := ⟨g, 0, none⟩) (.inl rfl) _).setCell (p := ⟨g, 1, none⟩) (.inl rfl) _).setCell (p := ⟨g, 2, none⟩) (.inl rfl) _).setCell (p := ⟨g, 3, none⟩) (.inl rfl) _
theorem Grew.put4 {w0 w : World} {g : Nat} (h : Grew w0 w) (hg : w0.heap.size ≤ g) (c : Clm) : Grew w0 (put4 w g c) :=
  Keeps.then_ h (put4_keeps w g c) fun i hi e => by omega
theorem Box.put4 {w : World} {g : Nat} {t : TypeId} {a : Clm} (h : Box w g t (cells4 a).toArray) (c : Clm) : Box (put4 w g c) g t (cells4 c).toArray := by
  have h1 := (((h.set_ 0 (.int .i64 c.1)).set_ 1 (.int .i64 c.2.1)).set_ 2 (.int .i64 c.2.2.1)).set_ 3 (.int .i64 c.2.2.2)
  unfold Go.Proofs.YtgkmfblmkfclbaaGreatDoor.put4
  simpa [cells4] using h1
theorem BW.far {w w' : World} {S : Nat → Prop} {base g : Nat} {v : Value} {s : List Bool} (h : BW w base g v s) (hk : Keeps S w w') (hs : ¬ S g) (hv : ∀ k, v.ownBlock = some k → ¬ S k) : BW w' base g v s :=
  ⟨h.1.keep hk hs, h.2.keep hk hv⟩
/- a box of another type is none of the writer's -/
theorem BW.ne {w : World} {base g k : Nat} {v : Value} {s : List Bool} {cs : Array Value} (h : BW w base g v s) (hb : Box w k 82 cs) : k ≠ g ∧ v.ownBlock ≠ some k := by
  exact ⟨fun e => hb.ne_ h.1 (by decide) e, fun e => h.2.ne_box e hb (by decide) rfl⟩
theorem Box.keepW {w w' : World} {base g k : Nat} {v : Value} {s : List Bool} {cs : Array Value} (hb : Box w k 82 cs) (hB : BW w base g v s) (hk : KeepsW g v w w') : Box w' k 82 cs :=
  hb.keep hk fun e => by
    obtain ⟨h1, h2⟩ := hB.ne hb
    rcases e with e | e
    · exact h1 e
    · exact h2 e
theorem Box.four {w : World} {g : Nat} {t : TypeId} {c : Clm} (h : Box w g t (cells4 c).toArray) :
    w.cell? ⟨g, 0, none⟩ = some (.int .i64 c.1) ∧ w.cell? ⟨g, 1, none⟩ = some (.int .i64 c.2.1) ∧ w.cell? ⟨g, 2, none⟩ = some (.int .i64 c.2.2.1) ∧ w.cell? ⟨g, 3, none⟩ = some (.int .i64 c.2.2.2) :=
  ⟨h.cell 0, h.cell 1, h.cell 2, h.cell 3⟩
theorem RdC.four {w : World} {B : Nat} {cs : List Clm} {A : Option Addr} {n c j : Nat} (h : RdC w B (.slice A n c) cs) (hj : j < cs.length) :
    ∃ b o, A = some ⟨b, o, none⟩ ∧ b < B ∧ w.cell? ⟨b, o + j * 4, none⟩ = some (.int .i64 (cs.getD j zc).1) ∧ w.cell? ⟨b, o + j * 4 + 1, none⟩ = some (.int .i64 (cs.getD j zc).2.1) ∧
      w.cell? ⟨b, o + j * 4 + 2, none⟩ = some (.int .i64 (cs.getD j zc).2.2.1) ∧ w.cell? ⟨b, o + j * 4 + 3, none⟩ = some (.int .i64 (cs.getD j zc).2.2.2) := by
  obtain ⟨b, o, e, hb, hc⟩ := h.at_ hj
  exact ⟨b, o, e, hb, hc 0 _ rfl, hc 1 _ rfl, hc 2 _ rfl, hc 3 _ rfl⟩
end Go.Proofs.YtgkmfblmkfclbaaGreatDoor
namespace Go.Proofs.YtgkmfblmkfclbaaGreatDoor
open Go.RowKit Pl

theorem infoC : (Tryz.prog.info? 82).map (fun i => (i.zero, i.size, i.bytes)) = some (some (.agg #[.int .i64 0, .int .i64 0, .int .i64 0, .int .i64 0]), 4, 32) := by kernel_rfl

def MineC (w : World) (base : Nat) (v : Value) (cs : List Clm) : Prop := w.ownsRow base 82 4 v cs.length (flat cs)
section
variable {w w' : World} {base : Nat} {v : Value} {cs : List Clm} {S : Nat → Prop}
theorem MineC.nil (w : World) (base : Nat) : MineC w base (.slice none 0 0) [] := World.ownsRow_nil _ _ _ _
theorem MineC.lt (h : MineC w base v cs) : ∀ k, v.ownBlock = some k → base ≤ k ∧ k < w.heap.size := World.ownsRow.lt h
theorem MineC.keep (h : MineC w base v cs) (hk : Keeps S w w') (hv : ∀ k, v.ownBlock = some k → ¬ S k) : MineC w' base v cs := by
  obtain ⟨h1, h2⟩ := h
  refine ⟨h1, ?_⟩
  rcases h2 with h2 | ⟨g, cap, cur, rfl, hg, hh, r⟩
  · exact .inl h2
  · have hlt : g < w.heap.size := by
      rcases Nat.lt_or_ge g w.heap.size with hlt | hge
      · exact hlt
      · rw [Array.getElem?_eq_none hge] at hh; cases hh
    exact .inr ⟨g, cap, cur, rfl, hg, (hk.block g hlt (hv g rfl)).trans hh, r⟩
theorem MineC.grew (h : MineC w base v cs) (hk : Grew w w') : MineC w' base v cs := h.keep hk fun _ _ e => e
theorem MineC.alloc (h : MineC w base v cs) (o : Obj) : MineC (w.alloc o) base v cs := World.ownsRow.alloc h o
theorem MineC.base_le {base' : Nat} (h : MineC w base v cs) (hb : base' ≤ base) : MineC w base' v cs := by
  obtain ⟨h1, h2⟩ := h
  refine ⟨h1, ?_⟩
  rcases h2 with h2 | ⟨g, cap, cur, hv, hg, r⟩
  · exact .inl h2
  · exact .inr ⟨g, cap, cur, hv, Nat.le_trans hb hg, r⟩
theorem MineC.form (h : MineC w base v cs) : (v = .slice none 0 0 ∧ cs = []) ∨
    ∃ g cap cur, v = .slice (some ⟨g, 0, none⟩) cs.length cap ∧ base ≤ g ∧ Box w g 82 cur ∧ cs.length ≤ cap ∧ cap ≤ maxLen ∧ cur.size = cap * 4 ∧ cur.toList.take (cs.length * 4) = flat cs := by
  obtain ⟨h1, h2⟩ := h
  rcases h2 with ⟨rfl, h2⟩ | ⟨g, cap, cur, rfl, hg, hh, h3, h4, h5, h6⟩
  · exact .inl ⟨rfl, List.eq_nil_of_length_eq_zero h2⟩
  · exact .inr ⟨g, cap, cur, rfl, hg, hh, h3, h4, h5, h6⟩
theorem MineC.slice (h : MineC w base v cs) : ∃ A n c, v = .slice A n c ∧ n = cs.length ∧ n ≤ c := by
  rcases h.form with ⟨rfl, rfl⟩ | ⟨g, cap, cur, rfl, _, _, h1, _⟩
  · exact ⟨_, _, _, rfl, rfl, Nat.le_refl _⟩
  · exact ⟨_, _, _, rfl, rfl, h1⟩
theorem MineC.rd (h : MineC w base v cs) : RdC w w.heap.size v cs := by
  rcases h.form with ⟨rfl, rfl⟩ | ⟨g, cap, cur, rfl, hb, hbox, h1, h2, h3, h4⟩
  · exact RdC.nil _ _
  · refine ⟨_, cap, rfl, h1, fun _ => ⟨g, 0, rfl, hbox.lt, fun j u hu => ?_⟩⟩
    have hj : j < cs.length * 4 := by rw [← flat_length]; exact (List.getElem?_eq_some_iff.1 hu).1
    rw [Nat.zero_add, hbox.cell, ← Array.getElem?_toList, ← hu, ← h4, List.getElem?_take, if_pos hj]
theorem MineC.ne_box {g k : Nat} {t : TypeId} {xs : Array Value} (h : MineC w base v cs) (hv : v.ownBlock = some k) (hb : Box w g t xs) (hne : 82 ≠ t) : k ≠ g := by
  rcases h.form with ⟨rfl, _⟩ | ⟨g', cap, cur, rfl, _, hbox, _⟩
  · cases hv
  · have : g' = k := by simpa [Value.ownBlock] using hv
    subst this
    exact hbox.ne_ hb hne
end

/- a row of claims and a box beside it -/
def Off (v : Value) (g : Nat) : Prop := ∀ k, v.ownBlock = some k → k ≠ g
theorem Off.nil (g : Nat) : Off (.slice none 0 0) g := fun k h => by cases h
theorem Box.asideC {w w' : World} {g : Nat} {t : TypeId} {u : Value} {xs : Array Value} (h : Box w g t xs) (ho : Off u g) (hk : Keeps (fun i => u.ownBlock = some i) w w') : Box w' g t xs :=
  h.keep hk fun e => ho _ e rfl
theorem oneC {cs : List Clm} : ∀ u ∈ flat cs, u.oneCell' = true := by
  intro u hu
  unfold flat at hu
  obtain ⟨c, _, hc⟩ := List.mem_flatMap.1 hu
  simp only [cells4, List.mem_cons, List.not_mem_nil, or_false] at hc
  rcases hc with rfl | rfl | rfl | rfl <;> rfl
theorem add_none (b o j : Nat) : (⟨b, o, none⟩ : Addr).add j = ⟨b, o + j, none⟩ := by unfold Addr.add; split <;> simp_all

section
variable {w : World} {base : Nat} {v : Value} {cs : List Clm}
set_option maxRecDepth 100000 in
theorem run_appC (ty : TypeId) (hown : MineC w base v cs) {B : Nat} {sv : Value} {ds : List Clm} (hr : RdC w B sv ds)
    (hn : cs.length + ds.length ≤ 1099511627776) (hbase : base ≤ w.heap.size) :
    ∃ v' w', (Builtin.append_ #[29, 29] ty #[v, sv]).run Tryz.prog w = .ok v' w' ∧ MineC w' base v' (cs ++ ds) ∧ Keeps (fun i => v.ownBlock = some i) w w' ∧
      (v'.ownBlock = v.ownBlock ∨ v'.ownBlock = some w.heap.size) := by
  obtain ⟨i, hi, hz, hs, hby⟩ := info_parts infoC
  obtain ⟨A, c, rfl, hc, hx⟩ := hr
  rcases A with _ | ad
  · have hy : ds = [] := by
      rcases ds with _ | ⟨y, ys⟩
      · rfl
      · obtain ⟨b, o, h, _⟩ := hx (by simp)
        cases h
    subst hy
    refine ⟨v, w, ?_, by simpa using hown, Keeps.refl _ _, .inl rfl⟩
    rcases hown.2 with ⟨rfl, h0⟩ | ⟨g, cap, cur, rfl, _, _, hnc, _⟩
    · have : cs = [] := List.eq_nil_of_length_eq_zero h0
      subst this
      simp [Builtin.append_, run_underlying Tryz.underlying29, sizeOf, typeInfo, hi, Builtin.lenOf, Builtin.firstCells]
    · simp [Builtin.append_, run_underlying Tryz.underlying29, sizeOf, typeInfo, hi, Builtin.lenOf, Builtin.firstCells, hnc, storeCells]
  · have hcells : ∀ j u, (flat ds)[j]? = some u → w.cell? (ad.add j) = some u := by
      intro j u hu
      rcases ds with _ | ⟨y, ys⟩
      · simp [flat] at hu
      · obtain ⟨b, o, h, _, hc⟩ := hx (by simp)
        injection h with h
        subst h
        rw [add_none]
        exact hc j u hu
    obtain ⟨v', w', hrun, h2, h3, _, h5⟩ := run_append_own_at (P := Tryz.prog) w base 29 ty 82 i _ 4 32 Tryz.underlying29 hi hz hs hby rfl (by decide) v cs.length (flat cs) hown ad ds.length c (flat ds) (flat_length ds) hcells oneC (by unfold maxLen; omega) (by omega) hbase
    refine ⟨v', w', hrun, ?_, (Keeps.refl _ w).grown h3 (fun k e _ => e), h5⟩
    unfold MineC
    rw [List.length_append, flat_append]
    exact h2

theorem app_anyC {ops : Array Oper} {rest : List Oper} {o : Oper} {a : Act} {Q : Exit → Act → World → Prop} (hgd : o.guard = none) (s x : Operand)
    (ho : o.op = .call { callee := .builtin .append, args := #[s, x], argTypes := #[29, 29] })
    (hs : a.eval s = v) (hown : MineC w base v cs) {B : Nat} {sv : Value} {ds : List Clm} (hx : a.eval x = sv) (hr : RdC w B sv ds)
    (hn : cs.length + ds.length ≤ 1099511627776) (hbase : base ≤ w.heap.size)
    (h : ∀ A m cap w', (cs ++ ds).length = m → MineC w' base (.slice A m cap) (cs ++ ds) → Keeps (fun i => v.ownBlock = some i) w w' →
      ((Value.slice A m cap).ownBlock = v.ownBlock ∨ (Value.slice A m cap).ownBlock = some w.heap.size) → wpList Tryz.prog ops Q rest (a.put o.dst (.slice A m cap)) w') : wpList Tryz.prog ops Q (o :: rest) a w := by
  refine wpList_plain hgd fun K hK => ?_
  obtain ⟨v', w', hrun, h2, h3, h4⟩ := run_appC o.type hown hr hn hbase
  unfold Oper.wp execOp
  simp only [ho, resolve, invoke, builtin, Sem.run_bind, Sem.run_pure, Result.andThen_ok, List.map_toArray, List.map_cons, List.map_nil, hs, hx, hrun]
  obtain ⟨A, m, cap, rfl, hm, _⟩ := h2.slice
  exact hK _ _ (h A m cap w' hm.symm h2 h3 h4)

/- one claim: it lies in a block of its own -/
theorem app_oneC {ops : Array Oper} {rest : List Oper} {o : Oper} {a : Act} {Q : Exit → Act → World → Prop} (hgd : o.guard = none) (s x : Operand)
    (ho : o.op = .call { callee := .builtin .append, args := #[s, x], argTypes := #[29, 29] })
    (hs : a.eval s = v) (hown : MineC w base v cs) (g c : Nat) (d : Clm) (t : TypeId) (hx : a.eval x = .slice (some ⟨g, 0, none⟩) 1 c) (hc1 : 1 ≤ c) (hb : Box w g t (cells4 d).toArray)
    (hn : cs.length < 1099511627776) (hbase : base ≤ w.heap.size)
    (h : ∀ r cap w', MineC w' base (.slice (some ⟨r, 0, none⟩) (cs.length + 1) cap) (cs ++ [d]) → Keeps (fun i => v.ownBlock = some i) w w' →
      (some r = v.ownBlock ∨ r = w.heap.size) → base ≤ r → r < w'.heap.size → wpList Tryz.prog ops Q rest (a.put o.dst (.slice (some ⟨r, 0, none⟩) (cs.length + 1) cap)) w') : wpList Tryz.prog ops Q (o :: rest) a w := by
  have hr : RdC w w.heap.size (.slice (some ⟨g, 0, none⟩) 1 c) [d] := by
    refine ⟨_, c, rfl, hc1, fun _ => ⟨_, _, rfl, hb.lt, fun j u hu => ?_⟩⟩
    rw [Nat.zero_add, hb.cell, ← hu, flat_one]
    simp
  refine app_anyC hgd s x ho hs hown hx hr (by simp; omega) hbase ?_
  intro A m cap w' hm h2 h3 h4
  rcases h2.form with ⟨_, hh⟩ | ⟨g', cap', cur, hv, hb, hbox, _⟩
  · simp at hh
  · injection hv with hv1 hv2 hv3
    subst hv1 hv2 hv3
    simp only [List.length_append, List.length_singleton] at h2 h4 ⊢
    refine h g' cap w' h2 h3 ?_ hb hbox.lt
    rcases h4 with h4 | h4
    · exact .inl h4
    · right; simpa [Value.ownBlock] using h4
end
end Go.Proofs.YtgkmfblmkfclbaaGreatDoor
namespace Go.Proofs.YtgkmfblmkfclbaaGreatDoor
open Go.RowKit Pl

theorem okC_iff (f t l h : Int) : okC (f, t, l, h) ↔ ∀ x ∈ [f, t, l, h], R40 x := by simp [okC]
theorem R40_not {x : Int} (h : ¬ R40 x) : x < -1099511627776 ∨ 1099511627776 < x := by unfold R40 at h; omega
theorem take_r40 {l : List Int} {j : Nat} {x : Int} (h : ∀ y ∈ l.take j, R40 y) (e : l[j]? = some x) (hx : R40 x) : ∀ y ∈ l.take (j + 1), R40 y := by
  rw [List.take_add_one, e]
  intro y hy
  rcases List.mem_append.1 hy with h1 | h1
  · exact h y h1
  · obtain rfl : y = x := by simpa using h1
    exact hx

theorem idx4_0 (a b c d : Value) (w : World) : Sem.run Tryz.prog (Instr.index 124 (.agg #[a, b, c, d]) (.int .i64 0)) w = .ok a w := by kernel_rfl
theorem idx4_1 (a b c d : Value) (w : World) : Sem.run Tryz.prog (Instr.index 124 (.agg #[a, b, c, d]) (.int .i64 1)) w = .ok b w := by kernel_rfl
theorem idx4_2 (a b c d : Value) (w : World) : Sem.run Tryz.prog (Instr.index 124 (.agg #[a, b, c, d]) (.int .i64 2)) w = .ok c w := by kernel_rfl
theorem idx4_3 (a b c d : Value) (w : World) : Sem.run Tryz.prog (Instr.index 124 (.agg #[a, b, c, d]) (.int .i64 3)) w = .ok d w := by kernel_rfl

set_option maxHeartbeats 1600000 in
set_option maxRecDepth 100000 in
theorem encodable_any (c : Clm) (w : World) :
    Calls Tryz.prog 60 #[vc c] w fun e w' => e = .returned (.bool (decide (okC c))) ∧ Grew w w' := by
  obtain ⟨f, t, l, h⟩ := c
  unfold vc cells4
  have hG := (Grew.refl w).alloc (.cells #[.int .i64 f, .int .i64 t, .int .i64 l, .int .i64 h] 82)
  have i0 := idx4_0
  have i1 := idx4_1
  have i2 := idx4_2
  have i3 := idx4_3
  go_enter Tryz.func60, Tryz.ntmps60
  go_wp2_with fail
  go_loopw [14] (fun i wr => ∃ (j : Nat), j ≤ 4 ∧ i = .int .i64 j ∧ Grew w wr ∧ ∀ x ∈ [f, t, l, h].take j, R40 x) (fun i _ => 4 - (intOf i).toNat)
  case atStart => exact ⟨0, by omega, rfl, hG, by simp⟩
  case round =>
    obtain ⟨j, hj, rfl, hGr, hall⟩ := hrel
    have HALL := Lib.hid hall
    clear hall hG
    by_cases hlt : j < 4
    · obtain ⟨x, hx⟩ : ∃ x, [f, t, l, h][j]? = some x := ⟨_, List.getElem?_eq_getElem (by simpa using hlt)⟩
      have HX := Lib.hid hx
      by_cases hr : R40 x
      · have hst := take_r40 HALL.out hx hr
        have HST := Lib.hid hst
        unfold R40 at hr
        clear hst
        have h4 : j = 0 ∨ j = 1 ∨ j = 2 ∨ j = 3 := by omega
        rcases h4 with rfl | rfl | rfl | rfl <;> (simp at hx; subst hx; clear hlt hj)
        · go_wp2_with fail
          go_roundw
          case rel => exact ⟨1, by omega, rfl, hGr, HST.out⟩
          case measure => simp [intOf]
        · go_wp2_with fail
          go_roundw
          case rel => exact ⟨2, by omega, rfl, hGr, HST.out⟩
          case measure => simp [intOf]
        · go_wp2_with fail
          go_roundw
          case rel => exact ⟨3, by omega, rfl, hGr, HST.out⟩
          case measure => simp [intOf]
        · go_wp2_with fail
          go_roundw
          case rel => exact ⟨4, by omega, rfl, hGr, HST.out⟩
          case measure => simp [intOf]
      · have hD : decide (okC (f, t, l, h)) = false := by
          rw [decide_eq_false_iff_not, okC_iff]
          exact fun k => hr (k x (List.mem_of_getElem? hx))
        have HD := Lib.hid hD
        have hn := R40_not hr
        clear hD hr
        have h4 : j = 0 ∨ j = 1 ∨ j = 2 ∨ j = 3 := by omega
        rcases h4 with rfl | rfl | rfl | rfl <;> (simp at hx; subst hx; rcases hn with hn | hn)
        all_goals clear hlt hj
        all_goals try (have hn0 : ¬ ((_ : Int) < -1099511627776) := by omega)
        all_goals go_wp2_with fail
        all_goals go_ret
        all_goals exact ⟨by rw [HD.out]; rfl, hGr⟩
    · have hD : decide (okC (f, t, l, h)) = true := by
        rw [decide_eq_true_eq, okC_iff]
        have := HALL.out
        rw [List.take_of_length_le (by simp; omega)] at this
        exact this
      have HD := Lib.hid hD
      clear hD
      go_wp2_with fail
      go_ret
      exact ⟨by rw [HD.out]; rfl, hGr⟩
end Go.Proofs.YtgkmfblmkfclbaaGreatDoor
