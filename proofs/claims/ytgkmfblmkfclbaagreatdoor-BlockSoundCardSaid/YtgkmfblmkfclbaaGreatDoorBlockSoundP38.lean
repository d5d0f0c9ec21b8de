/- Slice expressions of a slice of claims, as steps; append behind a slice of claims that has no room. lossy.thinning.keep: one claim or none. -/
import Derived.Test.YtgkmfblmkfclbaaGreatDoorBlockSoundP10
import Derived.Test.YtgkmfblmkfclbaaGreatDoorBlockSoundP27
import Derived.Deep.Upon
import Derived.Test.YtgkmfblmkfclbaaGreatDoorBlockSoundP31
import Derived.Test.YtgkmfblmkfclbaaGreatDoorBlockSoundP32
import Derived.Test.YtgkmfblmkfclbaaGreatDoorBlockSoundP37
namespace Go.Proofs.YtgkmfblmkfclbaaGreatDoor
open Go.RowKit Pl

theorem flat_drop (cs : List Clm) (k j : Nat) (u : Value) (h : (flat (cs.drop k))[j]? = some u) (hk : k ≤ cs.length) : (flat cs)[k * 4 + j]? = some u := by
  have e : flat cs = flat (cs.take k) ++ flat (cs.drop k) := by rw [← flat_append, List.take_append_drop]
  have hl : (flat (cs.take k)).length = k * 4 := by rw [flat_length, List.length_take]; omega
  rw [e, List.getElem?_append_right (by omega), hl, Nat.add_sub_cancel_left]
  exact h
theorem flat_take' (cs : List Clm) (m j : Nat) (u : Value) (h : (flat (cs.take m))[j]? = some u) : (flat cs)[j]? = some u := by
  have e : flat cs = flat (cs.take m) ++ flat (cs.drop m) := by rw [← flat_append, List.take_append_drop]
  have hj : j < (flat (cs.take m)).length := (List.getElem?_eq_some_iff.1 h).1
  rw [e, List.getElem?_append_left hj]
  exact h
section
variable {w : World}
theorem run_fromC {A : Option Addr} {n c k : Nat} (hk : k ≤ n) :
    (Instr.sliceAt 29 (.slice A n c) (some (.int .i64 (k : Nat))) none none).run Tryz.prog w = .ok (.slice (if c = k then A else A.map (·.add (k * 4))) (n - k) (c - k)) w := by
  obtain ⟨i, hi, hz, hs, hby⟩ := info_parts infoC
  simp [Instr.sliceAt, Instr.slice, run_underlying Tryz.underlying29, Instr.sliceBounds, Instr.sliceBound, asIntOf, sizeOf, typeInfo, hi, hs]
  omega
theorem run_uptoC {A : Option Addr} {n c k : Nat} (hk : k ≤ c) :
    (Instr.sliceAt 29 (.slice A n c) none (some (.int .i64 (k : Nat))) (some (.int .i64 (k : Nat)))).run Tryz.prog w = .ok (.slice (if k = 0 then A else A.map (·.add 0)) k k) w := by
  obtain ⟨i, hi, hz, hs, hby⟩ := info_parts infoC
  simp [Instr.sliceAt, Instr.slice, run_underlying Tryz.underlying29, Instr.sliceBounds, Instr.sliceBound, asIntOf, sizeOf, typeInfo, hi]
  omega
variable {B : Nat} {cs : List Clm} {ops : Array Oper} {rest : List Oper} {o : Oper} {a : Act} {Q : Exit → Act → World → Prop}
theorem RdC.cut {A : Option Addr} {n c : Nat} (h : RdC w B (.slice A n c) cs) {k : Nat} (hk : k ≤ n) : RdC w B (.slice (if c = k then A else A.map (·.add (k * 4))) (n - k) (c - k)) (cs.drop k) := by
  obtain ⟨A0, c', hv, hc, hx⟩ := h
  injection hv with e1 e2 e3
  subst e1 e2 e3
  refine ⟨_, c - k, by rw [List.length_drop], by rw [List.length_drop]; omega, fun h0 => ?_⟩
  rw [List.length_drop] at h0
  obtain ⟨b, o, rfl, hb, hcell⟩ := hx (by omega)
  rw [if_neg (by omega)]
  refine ⟨b, o + k * 4, by rw [Option.map_some, add_none], hb, fun j u hu => ?_⟩
  rw [Nat.add_assoc]
  exact hcell (k * 4 + j) u (flat_drop cs k j u hu (by omega))
theorem map_add_zero (A : Option Addr) : A.map (·.add 0) = A := by
  cases A with
  | none => rfl
  | some ad => simp [add_zero_]
theorem RdC.upto {A : Option Addr} {n c : Nat} (h : RdC w B (.slice A n c) cs) {k : Nat} (hk : k ≤ n) : RdC w B (.slice (if k = 0 then A else A.map (·.add 0)) k k) (cs.take k) := by
  have hA : (if k = 0 then A else A.map (·.add 0)) = A := by
    split
    · rfl
    · exact map_add_zero A
  rw [hA]
  obtain ⟨A', c', hv, hc, hx⟩ := h
  injection hv with e1 e2 e3
  subst e1 e2 e3
  have hl : (cs.take k).length = k := by rw [List.length_take]; omega
  refine ⟨A, k, by rw [hl], by omega, fun h0 => ?_⟩
  obtain ⟨b, o, e, hb, hcell⟩ := hx (by omega)
  exact ⟨b, o, e, hb, fun j u hu => hcell j u (flat_take' cs k j u hu)⟩
/- s[k:] -/
set_option maxRecDepth 100000 in
theorem sl_fromC (hgd : o.guard = none) (x y : Operand) (ho : o.op = .slice 29 x (some y) none none) {A : Option Addr} {n c : Nat} (hx : a.eval x = .slice A n c) {k : Nat} (hy : a.eval y = .int .i64 (k : Nat)) (hk : k ≤ n)
    (hr : RdC w B (.slice A n c) cs)
    (h : ∀ A' m c', m = n - k → RdC w B (.slice A' m c') (cs.drop k) → wpList Tryz.prog ops Q rest (a.put o.dst (.slice A' m c')) w) : wpList Tryz.prog ops Q (o :: rest) a w := by
  refine wpList_plain hgd fun K hK => ?_
  unfold Oper.wp execOp
  simp only [ho, hx, hy, Option.map_some, Option.map_none]
  have := run_fromC (w := w) (A := A) (c := c) hk
  simp only [this, Sem.run_bind, Sem.run_pure, Result.andThen_ok]
  exact hK _ _ (h _ _ _ rfl (hr.cut hk))
/- s[:k:k] -/
set_option maxRecDepth 100000 in
theorem sl_uptoC (hgd : o.guard = none) (x y z : Operand) (ho : o.op = .slice 29 x none (some y) (some z)) {A : Option Addr} {n c : Nat} (hx : a.eval x = .slice A n c) {k : Nat} (hy : a.eval y = .int .i64 (k : Nat)) (hz : a.eval z = .int .i64 (k : Nat)) (hk : k ≤ n)
    (hr : RdC w B (.slice A n c) cs)
    (h : ∀ A', RdC w B (.slice A' k k) (cs.take k) → wpList Tryz.prog ops Q rest (a.put o.dst (.slice A' k k)) w) : wpList Tryz.prog ops Q (o :: rest) a w := by
  refine wpList_plain hgd fun K hK => ?_
  unfold Oper.wp execOp
  simp only [ho, hx, hy, hz, Option.map_some, Option.map_none]
  obtain ⟨A', n', c', hv, hc, hx'⟩ := hr.form
  injection hv with e1 e2 e3
  subst e1 e2 e3
  have := run_uptoC (w := w) (A := A) (n := n) (c := c) (k := k) (by omega)
  simp only [this, Sem.run_bind, Sem.run_pure, Result.andThen_ok]
  exact hK _ _ (h _ (hr.upto hk))
/- append behind a slice without room -/
theorem oneC' {cs : List Clm} : ∀ u ∈ flat cs, u.oneCell' = true := oneC
set_option maxRecDepth 100000 in
theorem run_fullC (ty : TypeId) {B B' : Nat} {A : Option Addr} {n : Nat} {sv : Value} {ds : List Clm} (hv : RdC w B (.slice A n n) cs) (hr : RdC w B' sv ds) (hB : B ≤ w.heap.size)
    (hn : cs.length + ds.length ≤ 1099511627776) :
    ∃ A' m c w', (Builtin.append_ #[29, 29] ty #[.slice A n n, sv]).run Tryz.prog w = .ok (.slice A' m c) w' ∧ m = (cs ++ ds).length ∧ RdC w' w'.heap.size (.slice A' m c) (cs ++ ds) ∧ Grew w w' := by
  obtain ⟨i, hi, hz, hs, hby⟩ := info_parts infoC
  have hv0 := hv
  obtain ⟨A1, c1, hv1, hc1, hx1⟩ := hv
  injection hv1 with e1 e2 e3
  subst e1 e2 e3
  obtain ⟨A2, c2, rfl, hc2, hx2⟩ := hr
  by_cases hd : ds = []
  · subst hd
    have hsrc : Src Tryz.prog i.size 29 (.slice A2 0 c2) 0 [] w := by
      rcases A2 with _ | ad
      · exact Src.ofNil w Tryz.underlying29 c2
      · exact Src.ofSlice w Tryz.underlying29 ad 0 c2 [] (by simp) (by simp) (by simp)
    refine ⟨A, cs.length, cs.length, w, ?_, by simp, by simpa using hv0.more hB, Grew.refl w⟩
    exact run_append_nothing w _ _ ty 82 i Tryz.underlying29 hi A cs.length cs.length (Nat.le_refl _) _ hsrc
  · have hd0 : 0 < ds.length := List.length_pos_iff.2 hd
    obtain ⟨b, o, rfl, hb, hcell⟩ := hx2 hd0
    have hsrc : Src Tryz.prog i.size 29 (.slice (some ⟨b, o, none⟩) ds.length c2) ds.length (flat ds) w :=
      Src.ofSlice w Tryz.underlying29 _ ds.length c2 (flat ds) (by rw [flat_length, hs]) (fun j u hu => by rw [add_none]; exact hcell j u hu) oneC
    have hold : (Builtin.firstCells i.size cs.length (.slice A cs.length cs.length)).run Tryz.prog w.drew = .ok (flat cs).toArray w.drew := by
      by_cases hc : cs = []
      · subst hc
        rcases A with _ | ad
        · exact run_firstCells_none _ _ _ _ _
        · exact run_firstCells_some w.drew i.size 0 ad 0 0 [] (by simp) (by simp)
      · obtain ⟨b1, o1, rfl, hb1, hcell1⟩ := hx1 (List.length_pos_iff.2 hc)
        exact run_firstCells_some w.drew i.size cs.length _ cs.length cs.length (flat cs) (by rw [flat_length, hs]) (fun j u hu => by rw [add_none]; exact hcell1 j u hu)
    have hfit : Builtin.nextslicecap (cs.length + ds.length) cs.length * i.bytes ≤ 281474976710656 := growslice_fits (by omega) (by rw [hby]; omega)
    have hrun := run_append_grow_src w 29 29 ty 82 i _ Tryz.underlying29 hi hz A cs.length cs.length (flat cs) hold _ ds.length (flat ds) hsrc (by omega) (by omega) hfit
    refine ⟨_, _, _, _, hrun, by simp, ?_, (Keeps.drew (Grew.refl w)).alloc _⟩
    refine ⟨_, _, by rw [List.length_append], ?_, fun _ => ⟨_, 0, rfl, by simp, fun j u hu => ?_⟩⟩
    · rw [List.length_append]; exact grownCap_ge w _ _ _
    · rw [Nat.zero_add]
      have hj : j < (flat (cs ++ ds)).length := (List.getElem?_eq_some_iff.1 hu).1
      have hbx := Box.new w.drew 82 ((flat cs ++ flat ds).toArray ++ Builtin.zeroCells (Value.agg #[.int .i64 0, .int .i64 0, .int .i64 0, .int .i64 0]).cells (grownCap w (cs.length + ds.length) cs.length 82 - (cs.length + ds.length)))
      have hcl := hbx.cell j
      rw [show w.drew.heap.size = w.heap.size from rfl] at hcl
      rw [hcl, Array.getElem?_append_left (by rw [flat_append] at hj; simpa using hj), ← hu, flat_append]
      simp
set_option maxRecDepth 100000 in
theorem app_fullC (hgd : o.guard = none) (s x : Operand) (ho : o.op = .call { callee := .builtin .append, args := #[s, x], argTypes := #[29, 29] })
    {B B' : Nat} {A : Option Addr} {n : Nat} {sv : Value} {ds : List Clm} (hs : a.eval s = .slice A n n) (hx : a.eval x = sv) (hv : RdC w B (.slice A n n) cs) (hr : RdC w B' sv ds) (hB : B ≤ w.heap.size) (hn : cs.length + ds.length ≤ 1099511627776)
    (h : ∀ A' m c w', m = (cs ++ ds).length → RdC w' w'.heap.size (.slice A' m c) (cs ++ ds) → Grew w w' → wpList Tryz.prog ops Q rest (a.put o.dst (.slice A' m c)) w') : wpList Tryz.prog ops Q (o :: rest) a w := by
  refine wpList_plain hgd fun K hK => ?_
  obtain ⟨A', m, c, w', hrun, h1, h2, h3⟩ := run_fullC o.type hv hr hB hn
  unfold Oper.wp execOp
  simp only [ho, resolve, invoke, builtin, Sem.run_bind, Sem.run_pure, Result.andThen_ok, List.map_toArray, List.map_cons, List.map_nil, hs, hx, hrun]
  exact hK _ _ (h A' m c w' h1 h2 h3)
end
end Go.Proofs.YtgkmfblmkfclbaaGreatDoor
namespace Go.Proofs.YtgkmfblmkfclbaaGreatDoor
open Go.RowKit Pl

/- the state of Thin, in a box -/
def cells16 (nm : ByteArray) (A : Option Addr) (n c : Nat) (x : Fin 10 → Int) (B : Option Addr) (N p : Nat) (C : Option Addr) (q : Nat) (most : Int) : List Value :=
  cells12 nm (.slice A n c) x ++ (cells3 (x 7) (.slice B N p) (.slice C N q) ++ [.int .i64 most])
structure KSt (w : World) (gt : Nat) (nm : ByteArray) (A : Option Addr) (n c : Nat) (ls : List (ByteArray × ByteArray)) (x : Fin 10 → Int) (B : Option Addr) (N p : Nat) (C : Option Addr) (q : Nat) (most : Int) (E : EnvL) : Prop where
  box : Box w gt 102 (cells16 nm A n c x B N p C q most).toArray
  lab : RdL w (.slice A n c) ls
  elo : Rd w w.heap.size (.slice B N p) (E.1.map vi)
  ehi : Rd w w.heap.size (.slice C N q) (E.2.map vi)
section
variable {w w' : World} {gt : Nat} {nm : ByteArray} {A : Option Addr} {n c : Nat} {ls : List (ByteArray × ByteArray)} {x : Fin 10 → Int} {B : Option Addr} {N p : Nat} {C : Option Addr} {q : Nat} {most : Int} {E : EnvL}
theorem KSt.grew (h : KSt w gt nm A n c ls x B N p C q most E) (g : Grew w w') : KSt w' gt nm A n c ls x B N p C q most E :=
  ⟨h.box.grew g, h.lab.grew g, (h.elo.grew (Nat.le_refl _) g).more g.size, (h.ehi.grew (Nat.le_refl _) g).more g.size⟩
theorem KSt.decl (h : KSt w gt nm A n c ls x B N p C q most E) : w.rangeAt gt 0 (cells12 nm (.slice A n c) x) := h.box.rangeN 0 _ (by simp [cells16, cells12])
theorem KSt.env (h : KSt w gt nm A n c ls x B N p C q most E) : w.rangeAt gt 12 (cells3 (x 7) (.slice B N p) (.slice C N q)) := h.box.rangeN 12 _ (by simp [cells16, cells12, cells3])
theorem KSt.mostc (h : KSt w gt nm A n c ls x B N p C q most E) : w.cell? ⟨gt, 15, none⟩ = some (.int .i64 most) := (h.box.cell 15).trans (by simp [cells16, cells12, cells3])
end
def KeepPost (cs : List Clm) (w : World) (e : Ending) (w' : World) : Prop :=
  ∃ A m c ds, e = .returned (.slice A m c) ∧ m = ds.length ∧ RdC w' w'.heap.size (.slice A m c) ds ∧ (∀ d ∈ ds, d ∈ cs) ∧ ds.length ≤ cs.length ∧ Grew w w'
theorem info12' : (Tryz.prog.info? 27).map (·.size) = some 12 := info12
/- one claim or none -/
set_option maxHeartbeats 6400000 in
set_option maxRecDepth 100000 in
theorem keep_none (gt : Nat) (f : Int) (L H : Value) (cap : Nat) (A : Option Addr) (w : World) :
    Calls Tryz.prog 57 #[.pointer (some ⟨gt, 0, none⟩), venv f L H, .slice A 0 cap] w (KeepPost [] w) := by
  have HG := Lib.hid ((Grew.refl w).alloc (.cells (cells3 f L H).toArray 104))
  unfold venv
  go_enter Tryz.func57, Tryz.ntmps57
  go_wp2_with fail
  go_ret
  exact ⟨none, 0, 0, [], rfl, rfl, RdC.nil _ _, by simp, by simp, HG.out⟩
set_option maxHeartbeats 12800000 in
set_option maxRecDepth 100000 in
theorem keep_one (gt : Nat) (nm : ByteArray) (A : Option Addr) (n c : Nat) (ls : List (ByteArray × ByteArray)) (x : Fin 10 → Int) (B : Option Addr) (p : Nat) (C : Option Addr) (q : Nat) (most : Int) (all : List Clm) (hnm : Low nm) (hls : GoodL ls) (hx : GoodD x) (hv : ∀ c ∈ all, ValidC x c) (hc : clashB x (spanD x) all = false)
    (w : World) (hK : KSt w gt nm A n c ls x B (spanD x) p C q most (boundE x (spanD x) all)) (lo hi : List Int) (A1 B1 : Option Addr) (c1 d1 : Nat) (hlo : Rd w w.heap.size (.slice A1 (spanD x) c1) (lo.map vi)) (hhi : Rd w w.heap.size (.slice B1 (spanD x) d1) (hi.map vi)) (hb : BandOk x (spanD x) (boundE x (spanD x) all) (lo, hi))
    (Av : Option Addr) (cap : Nat) (cs : List Clm) (hr : RdC w w.heap.size (.slice Av 1 cap) cs) :
    Calls Tryz.prog 57 #[.pointer (some ⟨gt, 0, none⟩), venv (x 7) (.slice A1 (spanD x) c1) (.slice B1 (spanD x) d1), .slice Av 1 cap] w (KeepPost cs w) := by
  obtain ⟨hs1, hs2⟩ := spanD_le hx
  have hE := boundE_small hx hv hc
  have hbd : ∀ j, j < spanD x → x 3 ≤ lo.getD j 0 ∧ lo.getD j 0 ≤ hi.getD j 0 ∧ hi.getD j 0 ≤ x 4 := fun j hj => by
    have h1 := hb.2 j hj
    have h2 := hb.1.lo j hj
    have h3 := hb.1.hi j hj
    have h4 := hE j hj
    simp only at h1 h2 h3
    omega
  have HCl := Lib.hid (fun w' (g : Grew w w') => eclaims_any x hx lo hi A1 B1 (spanD x) c1 d1 w' ((hlo.grew (Nat.le_refl _) g).more g.size) ((hhi.grew (Nat.le_refl _) g).more g.size) rfl hbd)
  have HN := Lib.hid (fun (w' : World) (g : Grew w w') (v : Value) (rs : List Clm) (h1 : RdC w' w'.heap.size v rs) (h2 : RunsI x (spanD x) rs) => new_any nm A n c ls x v rs w' hnm (hK.lab.grew g) hls hx h1 (fun c hm => (h2.2 c hm).1) (Nat.le_trans h2.1 hs2))
  have HRdy := Lib.hid (fun (rs : List Clm) (h2 : RunsI x (spanD x) rs) (h3 : clashB x (spanD x) rs = false) => growth_ready hx hv hc (fun c hm => (h2.2 c hm).1) h3)
  have hKeepL : ∀ w', Grew w w' → KeepPost cs w (.returned (.slice Av 1 cap)) w' := fun w' g => ⟨Av, 1, cap, cs, rfl, by obtain ⟨_, _, _, e, h, _⟩ := hr.form; injection e with _ e; omega, (hr.grew (Nat.le_refl _) g).more g.size, fun d h => h, Nat.le_refl _, g⟩
  have hKeepN : ∀ w', Grew w w' → KeepPost cs w (.returned (.slice none 0 0)) w' := fun w' g => ⟨none, 0, 0, [], rfl, rfl, RdC.nil _ _, by simp, by simp, g⟩
  have HKL := Lib.hid hKeepL
  have HKN := Lib.hid hKeepN
  have hbx := Box.new w 104 (cells3 (x 7) (.slice A1 (spanD x) c1) (.slice B1 (spanD x) d1)).toArray
  have hG0 := (Grew.refl w).alloc (.cells (cells3 (x 7) (.slice A1 (spanD x) c1) (.slice B1 (spanD x) d1)).toArray 104)
  have HKK := Lib.hid (fun w' (g : Grew w w') => hK.grew g)
  generalize hNN : spanD x = N at *
  generalize hEE : boundE x N all = E at *
  clear hK hlo hhi hb hr hv hc hE hbd hls hx hnm hKeepL hKeepN hNN hEE
  unfold venv
  unfold venv cells3 at HCl
  go_enter Tryz.func57, Tryz.ntmps57
  go_upto_region 4 with fail
  generalize w.alloc (.cells (cells3 (x 7) (.slice A1 N c1) (.slice B1 N d1)).toArray 104) = w1 at *
  have o0 : w1.cell? ⟨w.heap.size, 0, none⟩ = some (.int .i64 (x 7)) := hbx.cell 0
  have o1 : w1.cell? ⟨w.heap.size, 1, none⟩ = some (.slice A1 N c1) := hbx.cell 1
  have o2 : w1.cell? ⟨w.heap.size, 2, none⟩ = some (.slice B1 N d1) := hbx.cell 2
  go_wp2_with fail
  refine (HCl.out w1 hG0).mono ?_
  rintro e w2 ⟨v2, rs, rfl, m2, hRs, k2⟩
  have hG2 := hG0.trans k2
  obtain ⟨A2, n2, q2, rfl, -, -⟩ := m2.slice
  have HN2 := Lib.hid (HN.out w2 hG2 _ rs m2.rd hRs)
  have HRs := Lib.hid hRs
  have HD2 := Lib.hid (HKK.out w2 hG2).decl
  have HG2 := Lib.hid hG2
  rw [vdecl_cells] at HN2
  clear o0 o1 o2 hbx hG0 k2 hG2 hRs m2 HCl HN
  go_wp2_with (refine wpList_load_mid rfl 27 (.tmp 32) rfl gt 0 rfl (cells12 nm (.slice A n c) x) _ HD2.out Tryz.underlying27 rfl info12 ?_)
  refine HN2.out.mono ?_
  intro e w3 hN3
  rcases hN3 with ⟨hcl, rfl, k3⟩ | ⟨hcl, B2, p2, C2, q2', rfl, m3, m4, k3⟩
  · have HG3 := Lib.hid ((HG2.out.trans k3).alloc (.cells #[.int .i64 0, .slice none 0 0, .slice none 0 0] 32))
    clear hcl k3
    unfold venv cells3
    go_wp2_with fail
    go_ret
    exact HKL.out _ HG3.out
  · have hG3 := HG2.out.trans k3
    have hrdy := HRdy.out rs HRs.out hcl
    have hRb := (boundE_len x N rs)
    clear HN2 HD2 HG2 hcl k3
    unfold venv cells3
    go_upto_region 8 with fail
    have ga := (Grew.refl w3).alloc (.cells #[.int .i64 (x 7), .slice B2 N p2, .slice C2 N q2'] 32)
    have e8 : Box (w3.alloc (.cells #[.int .i64 (x 7), .slice B2 N p2, .slice C2 N q2'] 32)) w3.heap.size 32 (cells3 (x 7) (.slice B2 N p2) (.slice C2 N q2')).toArray := Box.new _ _ _
    have hG4 := hG3.trans ga
    have r3 := m3.grew ga
    have r4 := m4.grew ga
    generalize w3.alloc (.cells #[.int .i64 (x 7), .slice B2 N p2, .slice C2 N q2'] 32) = w4 at *
    generalize hgg : w3.heap.size = g8 at *
    have hK4 := HKK.out w4 hG4
    have HGr := Lib.hid (growth_any (x 7) E.1 E.2 (boundE x N rs).1 (boundE x N rs).2 B C B2 C2 p q p2 q2' N w4.drew hK4.elo.drew hK4.ehi.drew r3.rd.drew r4.rd.drew hs1 (by omega) hrdy)
    have HG4 := Lib.hid hG4
    have HMo := Lib.hid (fun w' (g : Grew w4 w') => (hK4.grew g).mostc)
    have hA : w4.drew.rangeAt gt 12 (cells3 (x 7) (.slice B N p) (.slice C N q)) ∧ w4.drew.rangeAt g8 0 (cells3 (x 7) (.slice B2 N p2) (.slice C2 N q2')) := ⟨hK4.env, e8.rangeN 0 _ (by simp)⟩
    generalize growV (E.1, E.2) ((boundE x N rs).1, (boundE x N rs).2) N = gv at *
    unfold venv at HGr
    clear hgg ga hG3 m3 m4 e8 hG4 r3 r4 hK4 hrdy hRb
    refine late_region [(5, fun w' => w'.rangeAt gt 12 (cells3 (x 7) (.slice B N p) (.slice C N q)) ∧ w'.rangeAt g8 0 (cells3 (x 7) (.slice B2 N p2) (.slice C2 N q2')))] (by kernel_rfl) (by intro pp hp; obtain rfl := List.mem_singleton.1 hp; exact hA) ?_
    intro hcl hkn
    refine' take_pure (i := 0) (v := _) rfl (by kernel_rfl) (by kernel_rfl) (by kernel_rfl) hcl hkn (by rfl) (fun _ _ _ h => h) rfl ?_ ?_
    rotate_left
    · intro w'; go_simp; try with_reducible rfl
    clear hcl hkn
    intro hcl hkn
    try simp only [List.getElem_toArray, List.getElem_cons_zero, Act.put, List.setIfInBounds_toArray, List.set_cons_zero, List.set_cons_succ]
    refine' take_pure (i := 1) (v := _) rfl (by kernel_rfl) (by kernel_rfl) (by kernel_rfl) hcl hkn (by rfl) (fun _ _ _ h => h) rfl ?_ ?_
    rotate_left
    · intro w'; go_simp; try with_reducible rfl
    clear hcl hkn
    intro hcl hkn
    try simp only [List.getElem_toArray, List.getElem_cons_zero, List.getElem_cons_succ, Act.put, List.setIfInBounds_toArray, List.set_cons_zero, List.set_cons_succ]
    refine' take_pure (i := 2) (v := _) rfl (by kernel_rfl) (by kernel_rfl) (by kernel_rfl) hcl hkn (by rfl) (fun _ _ _ h => h) rfl ?_ ?_
    rotate_left
    · intro w'; go_simp; try with_reducible rfl
    clear hcl hkn
    intro hcl hkn
    try simp only [List.getElem_toArray, List.getElem_cons_zero, List.getElem_cons_succ, Act.put, List.setIfInBounds_toArray, List.set_cons_zero, List.set_cons_succ]
    refine take_row 5 _ (i := 3) rfl (by kernel_rfl) (by kernel_rfl) (by kernel_rfl) hcl hkn (by rfl) 0 rfl (by kernel_rfl) 32 (.tmp 44) rfl gt 12 rfl (cells3 (x 7) (.slice B N p) (.slice C N q)) _ (fun w h => h.1) Tryz.underlying32 rfl (by kernel_rfl) (fun _ _ _ h => h) rfl ?_
    clear hcl hkn
    intro hcl hkn
    try simp only [List.getElem_toArray, List.getElem_cons_zero, List.getElem_cons_succ, Act.put, List.setIfInBounds_toArray, List.set_cons_zero, List.set_cons_succ]
    refine take_row 5 _ (i := 4) rfl (by kernel_rfl) (by kernel_rfl) (by kernel_rfl) hcl hkn (by rfl) 0 rfl (by kernel_rfl) 32 (.tmp 8) rfl g8 0 rfl (cells3 (x 7) (.slice B2 N p2) (.slice C2 N q2')) _ (fun w h => h.2) Tryz.underlying32 rfl (by kernel_rfl) (fun _ _ _ h => h) rfl ?_
    clear hcl hkn
    intro hcl hkn
    try simp only [List.getElem_toArray, List.getElem_cons_zero, List.getElem_cons_succ, Act.put, List.setIfInBounds_toArray, List.set_cons_zero, List.set_cons_succ]
    refine one_next hcl (i := 5) (by kernel_rfl) rfl rfl (fun K hK => ?_)
    go_simp
    refine HGr.out.mono ?_
    rintro e w5 ⟨rfl, k5⟩
    have HG5 := Lib.hid ((Keeps.drew HG4.out).trans k5)
    have m15 := HMo.out w5 (Grew.trans (Keeps.drew (Grew.refl w4)) k5)
    refine hK _ _ (known_one (.inl (by kernel_rfl))) ?_
    clear hK K hcl hkn
    intro hcl hkn
    try simp only [List.getElem_toArray, List.getElem_cons_zero, List.getElem_cons_succ, Act.put, List.setIfInBounds_toArray, List.set_cons_zero, List.set_cons_succ]
    refine' take_pure (i := 6) (v := _) rfl (by kernel_rfl) (by kernel_rfl) (by kernel_rfl) hcl hkn (by rfl) (fun _ _ _ h => h) rfl ?_ ?_
    rotate_left
    · intro w'; go_simp; try with_reducible rfl
    clear hcl hkn
    intro hcl hkn
    try simp only [List.getElem_toArray, List.getElem_cons_zero, List.getElem_cons_succ, Act.put, List.setIfInBounds_toArray, List.set_cons_zero, List.set_cons_succ]
    refine' take_pure (i := 7) (v := _) rfl (by kernel_rfl) (by kernel_rfl) (by kernel_rfl) hcl hkn (by rfl) (fun _ _ _ h => h) rfl ?_ ?_
    rotate_left
    · intro w'; go_simp; try with_reducible rfl
    clear hcl hkn
    intro hcl hkn
    try simp only [List.getElem_toArray, List.getElem_cons_zero, List.getElem_cons_succ, Act.put, List.setIfInBounds_toArray, List.set_cons_zero, List.set_cons_succ]
    refine' take_pure (i := 8) (v := _) rfl (by kernel_rfl) (by kernel_rfl) (by kernel_rfl) hcl hkn (by rfl) (fun _ _ _ h => h) rfl ?_ ?_
    rotate_left
    · intro w'; go_simp; try with_reducible rfl
    clear hcl hkn
    intro hcl hkn
    try simp only [List.getElem_toArray, List.getElem_cons_zero, List.getElem_cons_succ, Act.put, List.setIfInBounds_toArray, List.set_cons_zero, List.set_cons_succ]
    refine' take_pure (i := 9) (v := _) rfl (by kernel_rfl) (by kernel_rfl) (by kernel_rfl) hcl hkn (by rfl) (fun _ _ _ h => h) rfl ?_ ?_
    rotate_left
    · intro w'; go_simp; try with_reducible rfl
    clear hcl hkn
    intro hcl hkn
    try simp only [List.getElem_toArray, List.getElem_cons_zero, List.getElem_cons_succ, Act.put, List.setIfInBounds_toArray, List.set_cons_zero, List.set_cons_succ]
    refine' take_pure (i := 10) (v := _) rfl (by kernel_rfl) (by kernel_rfl) (by kernel_rfl) hcl hkn (by rfl) (fun _ _ _ h => h) rfl ?_ ?_
    rotate_left
    · intro w'; go_simp; try with_reducible rfl
    clear hcl hkn
    intro hcl hkn
    try simp only [List.getElem_toArray, List.getElem_cons_zero, List.getElem_cons_succ, Act.put, List.setIfInBounds_toArray, List.set_cons_zero, List.set_cons_succ]
    refine all_done (by kernel_rfl) ?_ _
    clear hcl hkn k5 HGr HMo HG4 hA
    by_cases hle : gv ≤ most
    · have t1 : decide (gv ≤ most) = true := by simpa using hle
      clear hle
      go_wp2_with fail
      go_ret
      exact HKN.out _ HG5.out
    · have t1 : decide (gv ≤ most) = false := by simpa using hle
      clear hle
      go_wp2_with fail
      go_ret
      exact HKL.out _ HG5.out

end Go.Proofs.YtgkmfblmkfclbaaGreatDoor
