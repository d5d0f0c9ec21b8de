/- A region that draws its order and ends in several stores, of which an early one may come ahead of what a later one reads: operations are taken first in the order of the text, each by what is known until a store that waits for it has come up. -/
import Derived.OrdersHeld
import Derived.StillTail
import Derived.Deep.MidRow
namespace Go.Proofs.YtgkmfblmkfclbaaGreatDoor
open Go

section
variable {P : Program} {ops : Array Oper} {Q : Exit → Act → World → Prop} {md : Region.Mode} {Gs : List (Nat × (World → Prop))}

/- what is known while the stores that are named have not come up -/
def Known (Gs : List (Nat × (World → Prop))) (listed : Array Bool) (w : World) : Prop := ∀ p ∈ Gs, listed.getD p.1 false = false → p.2 w
def ClosedL (md : Region.Mode) (ops : Array Oper) (listed : Array Bool) : Prop :=
  ∀ j oj, ops[j]? = some oj → listed.getD j false = true → ∀ e ∈ oj.after, Region.binds md e = true → listed.getD e.on false = true
theorem ClosedL.start (n : Nat) : ClosedL md ops (Array.replicate n false) := fun j oj _ hl => by
  rw [getD_replicate_false] at hl; cases hl
theorem ClosedL.set {i : Nat} {listed : Array Bool} (h : ClosedL md ops listed) (hi : i ∈ Region.ready md ops listed) : ClosedL md ops (listed.setIfInBounds i true) := fun j oj hj hl e he hb => by
  obtain ⟨_, oi, hoi, hall⟩ := mem_ready.1 hi
  by_cases hij : i = j
  · subst hij
    have : oj = oi := Option.some.inj (hj.symm.trans hoi)
    subst this
    exact getD_set_true (hall e he hb)
  · rw [getD_set_ne false hij] at hl
    exact getD_set_true (h j oj hj hl e he hb)
theorem ClosedL.before {i s : Nat} {listed : Array Bool} (h : ClosedL md ops listed) (hun : listed.getD i true = false) (hw : Region.waitsFor md ops s i = true) : listed.getD s false = false := by
  obtain ⟨oj, hoj, e, he, hb, hon⟩ := Region.waitsFor_spec hw
  cases hl : listed.getD s false with
  | false => rfl
  | true =>
    have h2 := h s oj hoj hl e he hb
    rw [hon, getD_both hun] at h2
    cases h2
theorem ClosedL.before' {i s : Nat} {listed : Array Bool} (h : ClosedL md ops listed) (hun : listed.getD i false = false) (hw : Region.waitsFor md ops s i = true) : listed.getD s false = false := by
  obtain ⟨oj, hoj, e, he, hb, hon⟩ := Region.waitsFor_spec hw
  cases hl : listed.getD s false with
  | false => rfl
  | true =>
    have h2 := h s oj hoj hl e he hb
    rw [hon, hun] at h2
    cases h2
/- each waits for the next -/
def pathB (md : Region.Mode) (ops : Array Oper) : List Nat → Bool
  | a :: b :: r => Region.waitsFor md ops a b && pathB md ops (b :: r)
  | _ => true
theorem ClosedL.path {i : Nat} {listed : Array Bool} (h : ClosedL md ops listed) (hun : listed.getD i false = false) : ∀ (mid : List Nat) (s : Nat), pathB md ops (s :: (mid ++ [i])) = true → listed.getD s false = false
  | [], s, hw => h.before' hun (by simpa [pathB] using hw)
  | k :: mid, s, hw => by
    simp only [List.cons_append, pathB, Bool.and_eq_true] at hw
    exact h.before' (h.path hun mid k hw.2) hw.1
/- the worlds in which operation i may come up -/
def MayMeet (md : Region.Mode) (ops : Array Oper) (Gs : List (Nat × (World → Prop))) (i : Nat) (w : World) : Prop := ∃ l, ClosedL md ops l ∧ l.getD i true = false ∧ Known Gs l w
def wpAnyD (P : Program) (md : Region.Mode) (ops : Array Oper) (Q : Exit → Act → World → Prop) (Gs : List (Nat × (World → Prop))) : Nat → Array Bool → Act → World → Prop
  | 0, listed, a, w => Region.ready md ops listed = [] ∧ Q .normal a w
  | fuel + 1, listed, a, w =>
    (Region.ready md ops listed = [] → Q .normal a w) ∧
    ∀ i ∈ Region.ready md ops listed, wpOp P ops Q i (fun a' w' => Known Gs (listed.setIfInBounds i true) w' ∧ wpAnyD P md ops Q Gs fuel (listed.setIfInBounds i true) a' w') a w
theorem wpAny_of_D : ∀ (fuel : Nat) (listed : Array Bool) (a : Act) (w : World), wpAnyD P md ops Q Gs fuel listed a w → wpAny P md ops Q fuel listed a w
  | 0, _, _, _, h => h
  | fuel + 1, _, _, _, h => ⟨h.1, fun i hi => wpOp_mono (fun a' w' h' => wpAny_of_D fuel _ a' w' h'.2) (h.2 i hi)⟩
theorem Known.set {i : Nat} {l : Array Bool} {w : World} (hne : ∀ p ∈ Gs, p.1 ≠ i) : Known Gs (l.setIfInBounds i true) w ↔ Known Gs l w := by
  unfold Known
  constructor
  · intro h p hp hl
    exact h p hp (by rw [getD_set_ne false (Ne.symm (hne p hp))]; exact hl)
  · intro h p hp hl
    exact h p hp (by rw [getD_set_ne false (Ne.symm (hne p hp))] at hl; exact hl)
theorem wpAnyD_first {i : Nat} {oi : Oper} {v : Value} (hi : ops[i]? = some oi) (hsel : ∀ (j : Nat) (o : Oper) cs b, ops[j]? = some o → o.op ≠ .select cs b)
    (hQ : ∀ c a w, Q (.panic c) (a.put oi.dst v) w → Q (.panic c) a w) (hne : ∀ p ∈ Gs, p.1 ≠ i) :
    ∀ (fuel : Nat) (listed : Array Bool) (a : Act) (w : World), ClosedL md ops listed →
      (∀ j oj, ops[j]? = some oj → j ≠ i → listed.getD j true = false → (∀ e ∈ oj.after, Region.binds md e = true → e.on ≠ i) → oi.apart ops oj = true) →
      i ∈ Region.ready md ops listed → YieldsIf P ops (MayMeet md ops Gs i) oi v a → Known Gs listed w →
      wpAnyD P md ops Q Gs fuel (listed.setIfInBounds i true) (a.put oi.dst v) w → wpAnyD P md ops Q Gs (fuel + 1) listed a w := by
  intro fuel
  induction fuel with
  | zero =>
    intro listed a w hcl _ hr hy hS H
    refine ⟨fun h => (by rw [h] at hr; cases hr), fun j hj => ?_⟩
    by_cases hji : j = i
    · subst hji; exact hy.wpOp hi ⟨listed, hcl, (mem_ready.1 hr).1, hS⟩ ⟨(Known.set hne).2 hS, H⟩
    · have := ready_mono hj hji
      rw [H.1] at this
      cases this
  | succ fuel ih =>
    intro listed a w hcl hfree hr hy hS H
    refine ⟨fun h => (by rw [h] at hr; cases hr), fun j hj => ?_⟩
    by_cases hji : j = i
    · subst hji; exact hy.wpOp hi ⟨listed, hcl, (mem_ready.1 hr).1, hS⟩ ⟨(Known.set hne).2 hS, H⟩
    · have h1 := H.2 j (ready_mono hj hji)
      obtain ⟨hjun, oj, hoj, hall⟩ := mem_ready.1 hj
      have hnot : ∀ e ∈ oj.after, Region.binds md e = true → e.on ≠ i := fun e he hb heq => by
        have h1 := hall e he hb
        rw [heq, getD_both (mem_ready.1 hr).1] at h1
        cases h1
      have h2 := wpOp_putIf hoj (hfree j oj hoj hji hjun hnot) (fun cs b => hsel i oi cs b hi) (fun cs b => hsel j oj cs b hoj) hQ hy h1
      have hfree' : ∀ k ok, ops[k]? = some ok → k ≠ i → (listed.setIfInBounds j true).getD k true = false →
          (∀ e ∈ ok.after, Region.binds md e = true → e.on ≠ i) → oi.apart ops ok = true := fun k ok hk hki hun hno => by
        refine hfree k ok hk hki ?_ hno
        by_cases hjk : j = k
        · subst hjk; exact hjun
        · rw [getD_set_ne true hjk] at hun; exact hun
      refine wpOp_mono (fun a' w' h3 => ?_) h2
      obtain ⟨h4, h5, h6⟩ := h3
      rw [Array.setIfInBounds_comm _ _ (Ne.symm hji)] at h5 h6
      have h7 := (Known.set hne).1 h5
      exact ⟨h7, ih (listed.setIfInBounds j true) a' w' (hcl.set hj) hfree' (ready_mono hr (Ne.symm hji)) h4 h7 h6⟩
theorem not_store {i : Nat} (h : (Gs.map (·.1)).contains i = false) : ∀ p ∈ Gs, p.1 ≠ i := fun p hp e => by
  have : (Gs.map (·.1)).contains i = true := by
    rw [List.contains_iff_mem]
    exact List.mem_map.2 ⟨p, hp, e⟩
  rw [h] at this
  cases this
/- an operation whose value hangs on no world -/
theorem take_pure {i : Nat} {oi : Oper} {v : Value} {fuel : Nat} {listed : Array Bool} {a : Act} {w : World} (hi : ops[i]? = some oi)
    (hs : Region.noSelect ops = true) (hf : Region.free md ops listed i = true) (hr : (Region.ready md ops listed).contains i = true) (hcl : ClosedL md ops listed) (hK : Known Gs listed w) (hne' : (Gs.map (·.1)).contains i = false)
    (hQ : ∀ c a w, Q (.panic c) (a.put oi.dst v) w → Q (.panic c) a w) (hgd : oi.guard = none) (hy : ∀ w, (execOp a.eval oi).run P w = .ok (.value v) w)
    (h : ClosedL md ops (listed.setIfInBounds i true) → Known Gs (listed.setIfInBounds i true) w → wpAnyD P md ops Q Gs fuel (listed.setIfInBounds i true) (a.put oi.dst v) w) : wpAnyD P md ops Q Gs (fuel + 1) listed a w := by
  have hr' : i ∈ Region.ready md ops listed := by simpa using hr
  have hne := not_store hne'
  exact wpAnyD_first hi (Region.noSelect_spec hs) hQ hne fuel listed a w hcl (Region.free_spec hi hf) hr' (.inl ⟨by simp [Region.wanted, hgd], fun w _ => hy w⟩) hK (h (hcl.set hr') ((Known.set hne).2 hK))
/- a load: what it reads is known until store s has come up, and s waits for it -/
theorem take_load (s : Nat) (A : World → Prop) {i : Nat} {oi : Oper} {v : Value} {fuel : Nat} {listed : Array Bool} {a : Act} {w : World} (hi : ops[i]? = some oi)
    (hs : Region.noSelect ops = true) (hf : Region.free md ops listed i = true) (hr : (Region.ready md ops listed).contains i = true) (hcl : ClosedL md ops listed) (hK : Known Gs listed w) (hne' : (Gs.map (·.1)).contains i = false)
    (k : Nat) (hm' : Gs[k]? = some (s, A)) (hw : Region.waitsFor md ops s i = true)
    (hQ : ∀ c a w, Q (.panic c) (a.put oi.dst v) w → Q (.panic c) a w) (hgd : oi.guard = none) (hy : ∀ w, A w → (execOp a.eval oi).run P w = .ok (.value v) w)
    (h : ClosedL md ops (listed.setIfInBounds i true) → Known Gs (listed.setIfInBounds i true) w → wpAnyD P md ops Q Gs fuel (listed.setIfInBounds i true) (a.put oi.dst v) w) : wpAnyD P md ops Q Gs (fuel + 1) listed a w := by
  have hr' : i ∈ Region.ready md ops listed := by simpa using hr
  have hne := not_store hne'
  exact wpAnyD_first hi (Region.noSelect_spec hs) hQ hne fuel listed a w hcl (Region.free_spec hi hf) hr' (.inl ⟨by simp [Region.wanted, hgd], fun w ⟨l, h1, h2, h3⟩ => hy w (h3 _ (List.mem_of_getElem? hm') (h1.before h2 hw))⟩) hK (h (hcl.set hr') ((Known.set hne).2 hK))
/- the same, where s waits for it by others -/
theorem take_loadP (mid : List Nat) (s : Nat) (A : World → Prop) {i : Nat} {oi : Oper} {v : Value} {fuel : Nat} {listed : Array Bool} {a : Act} {w : World} (hi : ops[i]? = some oi)
    (hs : Region.noSelect ops = true) (hf : Region.free md ops listed i = true) (hr : (Region.ready md ops listed).contains i = true) (hcl : ClosedL md ops listed) (hK : Known Gs listed w) (hne' : (Gs.map (·.1)).contains i = false)
    (k : Nat) (hm' : Gs[k]? = some (s, A)) (hw : pathB md ops (s :: (mid ++ [i])) = true)
    (hQ : ∀ c a w, Q (.panic c) (a.put oi.dst v) w → Q (.panic c) a w) (hgd : oi.guard = none) (hy : ∀ w, A w → (execOp a.eval oi).run P w = .ok (.value v) w)
    (h : ClosedL md ops (listed.setIfInBounds i true) → Known Gs (listed.setIfInBounds i true) w → wpAnyD P md ops Q Gs fuel (listed.setIfInBounds i true) (a.put oi.dst v) w) : wpAnyD P md ops Q Gs (fuel + 1) listed a w := by
  have hr' : i ∈ Region.ready md ops listed := by simpa using hr
  have hne := not_store hne'
  exact wpAnyD_first hi (Region.noSelect_spec hs) hQ hne fuel listed a w hcl (Region.free_spec hi hf) hr' (.inl ⟨by simp [Region.wanted, hgd], fun w ⟨l, h1, h2, h3⟩ => hy w (h3 _ (List.mem_of_getElem? hm') (h1.path (getD_both h2) mid s hw))⟩) hK (h (hcl.set hr') ((Known.set hne).2 hK))
/- a struct or array loaded whole -/
theorem take_row (s : Nat) (A : World → Prop) {i : Nat} {oi : Oper} {fuel : Nat} {listed : Array Bool} {a : Act} {w : World} (hi : ops[i]? = some oi)
    (hs : Region.noSelect ops = true) (hf : Region.free md ops listed i = true) (hr : (Region.ready md ops listed).contains i = true) (hcl : ClosedL md ops listed) (hK : Known Gs listed w) (hne' : (Gs.map (·.1)).contains i = false)
    (k : Nat) (hm' : Gs[k]? = some (s, A)) (hw : Region.waitsFor md ops s i = true) (ty : TypeId) (x : Operand) (ho : oi.op = .load ty x) (b o : Nat) (hx : a.eval x = .pointer (some ⟨b, o, none⟩)) (cs : List Value) (d : TypeDesc) (hS : ∀ w, A w → w.rangeAt b o cs)
    (hu : P.underlying ty = some d) (hd : d.isRow = true) (hin : (P.info? ty).map (·.size) = some cs.length)
    (hQ : ∀ c a w, Q (.panic c) (a.put oi.dst (.agg cs.toArray)) w → Q (.panic c) a w) (hgd : oi.guard = none)
    (h : ClosedL md ops (listed.setIfInBounds i true) → Known Gs (listed.setIfInBounds i true) w → wpAnyD P md ops Q Gs fuel (listed.setIfInBounds i true) (a.put oi.dst (.agg cs.toArray)) w) : wpAnyD P md ops Q Gs (fuel + 1) listed a w :=
  take_load s A hi hs hf hr hcl hK hne' k hm' hw hQ hgd (fun w' hA => by
    unfold execOp
    simp only [ho, hx, Instr.loadAt, Instr.sureAddr, Sem.run_bind, Sem.run_pure, Result.andThen_ok, run_loadVar_mid w' b o ty cs d (hS w' hA) hu hd hin]) h
theorem ClosedL.one {i : Nat} {listed : Array Bool} (h : ClosedL md ops listed) (hr : Region.ready md ops listed = [i]) : ClosedL md ops (listed.setIfInBounds i true) := h.set (by rw [hr]; simp)
/- one alone may come up -/
theorem one_next {i : Nat} {oi : Oper} {fuel : Nat} {listed : Array Bool} {a : Act} {w : World} (hcl : ClosedL md ops listed) (hr : Region.ready md ops listed = [i]) (hi : ops[i]? = some oi) (hgd : oi.guard = none)
    (h : ∀ K : Act → World → Prop, (∀ a' w', Known Gs (listed.setIfInBounds i true) w' → (ClosedL md ops (listed.setIfInBounds i true) → Known Gs (listed.setIfInBounds i true) w' → wpAnyD P md ops Q Gs fuel (listed.setIfInBounds i true) a' w') → K a' w') → oi.wp P a w K Q) : wpAnyD P md ops Q Gs (fuel + 1) listed a w := by
  refine ⟨(fun h0 => by rw [hr] at h0; cases h0), fun j hj => ?_⟩
  have hj' := hj
  rw [hr] at hj
  have : j = i := by simpa using hj
  subst this
  unfold wpOp
  simp only [hi, Region.wanted, hgd, if_true]
  exact .inl (h _ fun a' w' h1 h2 => ⟨h1, h2 (hcl.set hj') h1⟩)
theorem known_one {s1 : Nat} {A : World → Prop} {l : Array Bool} {w : World} (h1 : l.getD s1 false = true ∨ A w) : Known [(s1, A)] l w := by
  intro p hp hl
  obtain rfl := List.mem_singleton.1 hp
  rcases h1 with h | h
  · rw [h] at hl; cases hl
  · exact h
theorem known_two {s1 s2 : Nat} {A B : World → Prop} {l : Array Bool} {w : World} (h1 : l.getD s1 false = true ∨ A w) (h2 : l.getD s2 false = true ∨ B w) : Known [(s1, A), (s2, B)] l w := by
  intro p hp hl
  rcases List.mem_cons.1 hp with rfl | hp
  · rcases h1 with h | h
    · rw [h] at hl; cases hl
    · exact h
  · obtain rfl := List.mem_singleton.1 hp
    rcases h2 with h | h
    · rw [h] at hl; cases hl
    · exact h
theorem known_three {s1 s2 s3 : Nat} {A B C : World → Prop} {l : Array Bool} {w : World} (h1 : l.getD s1 false = true ∨ A w) (h2 : l.getD s2 false = true ∨ B w) (h3 : l.getD s3 false = true ∨ C w) : Known [(s1, A), (s2, B), (s3, C)] l w := by
  intro p hp hl
  rcases List.mem_cons.1 hp with rfl | hp
  · rcases h1 with h | h
    · rw [h] at hl; cases hl
    · exact h
  · exact known_two h2 h3 p hp hl
theorem all_done {listed : Array Bool} {a : Act} {w : World} (hr : Region.ready md ops listed = []) (h : Q .normal a w) : ∀ fuel, wpAnyD P md ops Q Gs fuel listed a w
  | 0 => ⟨hr, h⟩
  | _ + 1 => ⟨fun _ => h, by rw [hr]; simp⟩
theorem late_region (Gs : List (Nat × (World → Prop))) {id : Nat} {a : Act} {w : World} (hm : P.follows .mixedOrders = true) (hK : ∀ p ∈ Gs, p.2 w.drew)
    (h : ClosedL .any ops (Array.replicate ops.size false) → Known Gs (Array.replicate ops.size false) w.drew → wpAnyD P .any ops Q Gs ops.size (Array.replicate ops.size false) a w.drew) : (Code.region id ops true).wp P Q a w :=
  wp_region_any hm (wpAny_of_D _ _ _ _ (h (ClosedL.start _) (fun p hp _ => hK p hp)))
end
end Go.Proofs.YtgkmfblmkfclbaaGreatDoor
