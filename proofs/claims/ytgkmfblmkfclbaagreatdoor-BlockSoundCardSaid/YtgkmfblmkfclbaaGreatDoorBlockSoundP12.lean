/- A slice of claims that came in, wherever it lies; append of it; Size. A slice of claims that came in, opened. block.valid: whether a block is valid. The table of parameters, from what the row lays. -/
import Derived.Test.YtgkmfblmkfclbaaGreatDoorBlockSoundP10
import Derived.Test.YtgkmfblmkfclbaaGreatDoorBlockSoundP11
import Derived.Test.YtgkmfblmkfclbaaGreatDoorBlockSoundP05
import Derived.Deep.Slices
import Derived.Deep.Fields
import Derived.Lib.SmallJoins
import Derived.Deep.DeepCutAuto
import Derived.Deep.QuietTactic
import Derived.BigQuiet
namespace Go.Proofs.YtgkmfblmkfclbaaGreatDoor
open Go.RowKit Pl

def RdG (w : World) (B : Nat) (v : Value) (cs : List Clm) : Prop :=
  ∃ A c, v = .slice A cs.length c ∧ cs.length ≤ c ∧ (0 < cs.length → ∃ ad, A = some ad ∧ ad.block < B ∧ ∀ j u, (flat cs)[j]? = some u → w.cell? (ad.add j) = some u)
section
variable {w w' : World} {B B' : Nat} {v : Value} {cs : List Clm} {S : Nat → Prop}
theorem RdC.rdG (h : RdC w B v cs) : RdG w B v cs := by
  obtain ⟨A, c, hv, hc, hx⟩ := h
  refine ⟨A, c, hv, hc, fun hn => ?_⟩
  obtain ⟨b, o, e, hb, hcell⟩ := hx hn
  exact ⟨⟨b, o, none⟩, e, hb, fun j u hu => by rw [add_none]; exact hcell j u hu⟩
theorem RdG.keep (h : RdG w B v cs) (hB : B ≤ w.heap.size) (hk : Keeps S w w') (hs : ∀ i, i < B → ¬ S i) : RdG w' B v cs := by
  obtain ⟨A, c, hv, hc, hx⟩ := h
  refine ⟨A, c, hv, hc, fun hn => ?_⟩
  obtain ⟨ad, e, hb, hcell⟩ := hx hn
  refine ⟨ad, e, hb, fun j u hu => (World.cell?_of_block ?_).trans (hcell j u hu)⟩
  rw [block_add]
  exact hk.block _ (by omega) (hs _ hb)
theorem RdG.grew (h : RdG w B v cs) (hB : B ≤ w.heap.size) (hk : Grew w w') : RdG w' B v cs := h.keep hB hk fun _ _ e => e
theorem RdG.more (h : RdG w B v cs) (hB : B ≤ B') : RdG w B' v cs := by
  obtain ⟨A, c, hv, hc, hx⟩ := h
  refine ⟨A, c, hv, hc, fun hn => ?_⟩
  obtain ⟨ad, e, hb, hcell⟩ := hx hn
  exact ⟨ad, e, by omega, hcell⟩
theorem RdG.form (h : RdG w B v cs) : ∃ A n c, v = .slice A n c ∧ n = cs.length ∧ n ≤ c := by
  obtain ⟨A, c, rfl, hc, _⟩ := h
  exact ⟨A, _, c, rfl, rfl, hc⟩
theorem RdG.some_ {A : Option Addr} {n c : Nat} (h : RdG w B (.slice A n c) cs) (hn : 0 < cs.length) : ∃ ad, A = some ad := by
  obtain ⟨A', c', hv, _, hx⟩ := h
  injection hv with hA
  subst hA
  obtain ⟨ad, e, _⟩ := hx hn
  exact ⟨ad, e⟩
theorem flat_take (cs : List Clm) (m j : Nat) (u : Value) (h : (flat (cs.take m))[j]? = some u) : (flat cs)[j]? = some u := by
  have e : flat cs = flat (cs.take m) ++ flat (cs.drop m) := by rw [← flat_append, List.take_append_drop]
  have hj : j < (flat (cs.take m)).length := (List.getElem?_eq_some_iff.1 h).1
  rw [e, List.getElem?_append_left hj]
  exact h
theorem RdG.take {A : Option Addr} {n c : Nat} (h : RdG w B (.slice A n c) cs) {m : Nat} (hm : m ≤ cs.length) : RdG w B (.slice A m c) (cs.take m) := by
  obtain ⟨A', c', hv, hc, hx⟩ := h
  injection hv with hA _ hcc
  subst hA hcc
  have hl : (cs.take m).length = m := by rw [List.length_take]; omega
  refine ⟨A, c, by rw [hl], by omega, fun h0 => ?_⟩
  obtain ⟨ad, rfl, hb, hcell⟩ := hx (by omega)
  exact ⟨ad, rfl, hb, fun j u hu => hcell j u (flat_take cs m j u hu)⟩
end
section
variable {w : World} {base : Nat} {v : Value} {cs : List Clm}
set_option maxRecDepth 100000 in
theorem run_appG (ty : TypeId) (hown : MineC w base v cs) {B : Nat} {sv : Value} {ds : List Clm} (hr : RdG w B sv ds)
    (hn : cs.length + ds.length ≤ 1099511627776) (hbase : base ≤ w.heap.size) :
    ∃ v' w', (Builtin.append_ #[29, 29] ty #[v, sv]).run Tryz.prog w = .ok v' w' ∧ MineC w' base v' (cs ++ ds) ∧ Keeps (fun i => v.ownBlock = some i) w w' ∧
      (v'.ownBlock = v.ownBlock ∨ v'.ownBlock = some w.heap.size) := by
  obtain ⟨i, hi, hz, hs, hby⟩ := info_parts infoC
  have hr0 := hr
  obtain ⟨A, c, rfl, hc, hx⟩ := hr
  rcases A with _ | ad
  · have hy : ds = [] := by
      rcases ds with _ | ⟨y, ys⟩
      · rfl
      · obtain ⟨ad, h, _⟩ := hx (by simp)
        cases h
    subst hy
    exact run_appC ty hown (B := B) ⟨none, c, rfl, hc, fun h => absurd h (by simp)⟩ hn hbase
  · have hcells : ∀ j u, (flat ds)[j]? = some u → w.cell? (ad.add j) = some u := by
      intro j u hu
      rcases ds with _ | ⟨y, ys⟩
      · simp [flat] at hu
      · obtain ⟨ad', h, _, hc⟩ := hx (by simp)
        injection h with h
        subst h
        exact hc j u hu
    obtain ⟨v', w', hrun, h2, h3, _, h5⟩ := run_append_own_at (P := Tryz.prog) w base 29 ty 82 i _ 4 32 Tryz.underlying29 hi hz hs hby rfl (by decide) v cs.length (flat cs) hown ad ds.length c (flat ds) (flat_length ds) hcells oneC (by unfold maxLen; omega) (by omega) hbase
    refine ⟨v', w', hrun, ?_, (Keeps.refl _ w).grown h3 (fun k e _ => e), h5⟩
    unfold MineC
    rw [List.length_append, flat_append]
    exact h2
theorem app_anyG {ops : Array Oper} {rest : List Oper} {o : Oper} {a : Act} {Q : Exit → Act → World → Prop} (hgd : o.guard = none) (s x : Operand)
    (ho : o.op = .call { callee := .builtin .append, args := #[s, x], argTypes := #[29, 29] })
    (hs : a.eval s = v) (hown : MineC w base v cs) {B : Nat} {sv : Value} {ds : List Clm} (hx : a.eval x = sv) (hr : RdG w B sv ds)
    (hn : cs.length + ds.length ≤ 1099511627776) (hbase : base ≤ w.heap.size)
    (h : ∀ A m cap w', (cs ++ ds).length = m → MineC w' base (.slice A m cap) (cs ++ ds) → Keeps (fun i => v.ownBlock = some i) w w' →
      ((Value.slice A m cap).ownBlock = v.ownBlock ∨ (Value.slice A m cap).ownBlock = some w.heap.size) → wpList Tryz.prog ops Q rest (a.put o.dst (.slice A m cap)) w') : wpList Tryz.prog ops Q (o :: rest) a w := by
  refine wpList_plain hgd fun K hK => ?_
  obtain ⟨v', w', hrun, h2, h3, h4⟩ := run_appG o.type hown hr hn hbase
  unfold Oper.wp execOp
  simp only [ho, resolve, invoke, builtin, Sem.run_bind, Sem.run_pure, Result.andThen_ok, List.map_toArray, List.map_cons, List.map_nil, hs, hx, hrun]
  obtain ⟨A, m, cap, rfl, hm, _⟩ := h2.slice
  exact hK _ _ (h A m cap w' hm.symm h2 h3 h4)
theorem Grew.appC {w0 w' : World} (h0 : Grew w0 w) (hown : MineC w w0.heap.size v cs) (hk : Keeps (fun i => v.ownBlock = some i) w w') : Grew w0 w' :=
  Keeps.then_ h0 hk fun i hi e => by have := (hown.lt i e).1; omega
end

/- how many bytes an encoding has -/
theorem encB_len (cs : List Clm) : (encB cs).length ≤ 200000 := by
  unfold encB
  split
  · rename_i h
    unfold encE at h
    split at h
    · omega
    · have := cbits_length cs
      rw [pack_length]; omega
  · simp
theorem encB_ok {cs : List Clm} (h : encE cs = 0) : encB cs = pack (cbits cs) := by unfold encB; rw [if_pos h]
theorem encB_no {cs : List Clm} (h : encE cs ≠ 0) : encB cs = [] := by unfold encB; rw [if_neg h]
/- what Encode returns, whether or not it succeeds -/
def EncAll (cs : List Clm) (w : World) (e : Ending) (w' : World) : Prop :=
  ∃ v, e = .returned (.tuple #[v, .int .i64 (encE cs)]) ∧ Mine w' w.heap.size 5 v ((encB cs).map vb) ∧ Grew w w'
theorem EncPost.all {cs : List Clm} {w w' : World} {e : Ending} (h : EncPost cs w e w') : EncAll cs w e w' := by
  obtain ⟨hg, ⟨h0, v, rfl, hm⟩ | ⟨h0, rfl⟩⟩ := h
  · exact ⟨v, by rw [h0], by rw [encB_ok h0]; exact hm, hg⟩
  · exact ⟨_, rfl, by rw [encB_no h0]; exact Mine.nil _ _ _, hg⟩
end Go.Proofs.YtgkmfblmkfclbaaGreatDoor
namespace Go.Proofs.YtgkmfblmkfclbaaGreatDoor
open Go.ChangeShapes Go.WideShapes Go.ChangeAt Go.RowKit Pl Go.Deep

theorem cellsClaim : Tryz.prog.cellsOf 82 = 4 := by kernel_rfl
set_option maxRecDepth 100000 in
theorem claim_cells {H : Type} {enc : TypeId × Value → H} {W : World} {n : Nat} {cs : List Value} {x : DataW H × List MemPlace}
    (h : DataW.trod enc Tryz.prog W 0 (fun _ => true) true n 82 cs = some x) : ∃ c : Clm, cs = cells4 c := by
  obtain ⟨xs, m, _, _, hl, hxl, hf⟩ := DataW.trod_struct Tryz.underlying82 h
  rw [cellsClaim] at hl
  obtain ⟨v0, v1, v2, v3, rfl⟩ : ∃ v0 v1 v2 v3, cs = [v0, v1, v2, v3] := by
    rcases cs with _ | ⟨v0, _ | ⟨v1, _ | ⟨v2, _ | ⟨v3, _ | ⟨v4, r⟩⟩⟩⟩⟩ <;> simp at hl
    exact ⟨v0, v1, v2, v3, rfl⟩
  have hx4 : xs.length = 4 := hxl
  have g0 : DataW.trod enc Tryz.prog W 0 (fun _ => true) true m 3 [v0] = some (xs[0]'(by omega)) := by
    have := hf 0 _ rfl
    rw [List.getElem?_eq_getElem (by omega)] at this
    simpa [cellsInt] using this
  obtain ⟨n0, e0, -⟩ := DataW.trod_int Tryz.underlying3 g0
  obtain rfl : v0 = .int .i64 n0 := by simpa using e0
  have g1 : DataW.trod enc Tryz.prog W 0 (fun _ => true) true m 3 [v1] = some (xs[1]'(by omega)) := by
    have := hf 1 _ rfl
    rw [List.getElem?_eq_getElem (by omega)] at this
    simpa [cellsInt] using this
  obtain ⟨n1, e1, -⟩ := DataW.trod_int Tryz.underlying3 g1
  obtain rfl : v1 = .int .i64 n1 := by simpa using e1
  have g2 : DataW.trod enc Tryz.prog W 0 (fun _ => true) true m 3 [v2] = some (xs[2]'(by omega)) := by
    have := hf 2 _ rfl
    rw [List.getElem?_eq_getElem (by omega)] at this
    simpa [cellsInt] using this
  obtain ⟨n2, e2, -⟩ := DataW.trod_int Tryz.underlying3 g2
  obtain rfl : v2 = .int .i64 n2 := by simpa using e2
  have g3 : DataW.trod enc Tryz.prog W 0 (fun _ => true) true m 3 [v3] = some (xs[3]'(by omega)) := by
    have := hf 3 _ rfl
    rw [List.getElem?_eq_getElem (by omega)] at this
    simpa [cellsInt] using this
  obtain ⟨n3, e3, -⟩ := DataW.trod_int Tryz.underlying3 g3
  obtain rfl : v3 = .int .i64 n3 := by simpa using e3
  exact ⟨(n0, n1, n2, n3), rfl⟩
theorem claims_of {H : Type} {enc : TypeId × Value → H} {W : World} {a : Option Addr} {len cap : Nat} {d : DataW H} {p : List MemPlace}
    (h : DataW.Trod enc Tryz.prog W 0 (fun _ => true) true 29 (.slice a len cap) d p) : ∃ cs : List Clm, RdG W W.heap.size (.slice a len cap) cs := by
  obtain ⟨fuel, hf⟩ := h
  rcases open_slice Tryz.underlying29 hf with ⟨hcs, _⟩ | ⟨x, l, c, m, n, D, Pl, hcs, _, hl, _, hm, _, hi⟩
  · simp [Value.cells] at hcs
    obtain ⟨rfl, rfl, rfl⟩ := hcs
    exact ⟨[], none, 0, rfl, Nat.le_refl _, fun h => absurd h (by simp)⟩
  · simp [Value.cells] at hcs
    obtain ⟨rfl, rfl, rfl⟩ := hcs
    simp only [if_true] at hm
    have hc : ∀ i, i < len → ∃ c : Clm, ∀ k, k < 4 → W.cell? (x.add (i * 4 + k)) = (cells4 c)[k]? := by
      intro i hil
      obtain ⟨cs', hc, ht⟩ := hi i (by omega)
      obtain ⟨c, rfl⟩ := claim_cells ht
      rw [cellsClaim] at hc
      obtain ⟨_, _, hat⟩ := World.cells?_some hc
      exact ⟨c, fun k hk => by rw [← hat k hk, Go.Deep.add_add]⟩
    have hc' : ∀ i, ∃ c : Clm, i < len → ∀ k, k < 4 → W.cell? (x.add (i * 4 + k)) = (cells4 c)[k]? := fun i => by
      by_cases h : i < len
      · obtain ⟨c, h1⟩ := hc i h
        exact ⟨c, fun _ => h1⟩
      · exact ⟨zc, fun h1 => absurd h1 h⟩
    have hch := Classical.axiomOfChoice hc'
    obtain ⟨f, hff⟩ := hch
    have hlen : ((List.range len).map f).length = len := by simp
    refine ⟨(List.range len).map f, some x, cap, by rw [hlen], by rw [hlen]; exact hl, fun h0 => ⟨x, rfl, ?_, fun j u hu => ?_⟩⟩
    · have h1 := hff 0 (by omega) 0 (by omega)
      have h2 : (cells4 (f 0))[0]? = some (.int .i64 (f 0).1) := rfl
      rw [h2] at h1
      have := cell_lt h1
      rwa [block_add] at this
    · have hj : j < len * 4 := by
        have := (List.getElem?_eq_some_iff.1 hu).1
        rwa [flat_length, hlen] at this
      have e : j = j / 4 * 4 + j % 4 := by omega
      have hq : j / 4 < len := by omega
      have h1 := hff (j / 4) hq (j % 4) (by omega)
      rw [e, flat_at (by rw [hlen]; exact hq) (by omega)] at hu
      rw [e, h1, ← hu]
      congr 2
      simp [List.getD_eq_getElem?_getD, hq]
/- a claim that came in by value -/
set_option maxRecDepth 100000 in
theorem claim_of {H : Type} {enc : TypeId × Value → H} {W : World} {b0 : Nat} {v : Value} {d : DataW H} {p : List MemPlace} (hv : Value.okWide Tryz.prog W .any b0 82 v)
    (h : DataW.Trod enc Tryz.prog W 0 (fun _ => true) true 82 v d p) :
    ∃ c : Clm, v = .agg #[.int .i64 c.1, .int .i64 c.2.1, .int .i64 c.2.2.1, .int .i64 c.2.2.2] ∧ I64 c.1 ∧ I64 c.2.1 ∧ I64 c.2.2.1 ∧ I64 c.2.2.2 := by
  obtain ⟨v0, v1, v2, v3, y0, y1, y2, y3, n, rfl, _, _, t0, t1, t2, t3⟩ := Go.Joins.open_agg4 Tryz.underlying82 (by kernel_rfl) cellsClaim hv h
  obtain ⟨n0, e0, _, w0⟩ := DataW.trod_int Tryz.underlying3 t0
  obtain ⟨n1, e1, _, w1⟩ := DataW.trod_int Tryz.underlying3 t1
  obtain ⟨n2, e2, _, w2⟩ := DataW.trod_int Tryz.underlying3 t2
  obtain ⟨n3, e3, _, w3⟩ := DataW.trod_int Tryz.underlying3 t3
  obtain rfl : v0 = .int .i64 n0 := by simpa using e0
  obtain rfl : v1 = .int .i64 n1 := by simpa using e1
  obtain rfl : v2 = .int .i64 n2 := by simpa using e2
  obtain rfl : v3 = .int .i64 n3 := by simpa using e3
  exact ⟨(n0, n1, n2, n3), rfl, i64_of_wf w0, i64_of_wf w1, i64_of_wf w2, i64_of_wf w3⟩
end Go.Proofs.YtgkmfblmkfclbaaGreatDoor
namespace Go.Proofs.YtgkmfblmkfclbaaGreatDoor
open Go.RowKit Pl

/- the least and the greatest parameter of a kind -/
def pLo (k : Nat) : Int := if k = 1 ∨ k = 3 then 1 else 0
def pHi (k : Nat) : Int := if k = 0 then 0 else if k = 1 ∨ k = 2 then 1073741824 else if k = 3 then 4096 else 1048576
/- the table of parameters, below block B -/
def PTab (w : World) (B : Nat) : Prop := 0 < B ∧ ∀ k, k < 5 → w.cell? ⟨0, k * 2, none⟩ = some (.int .i64 (pLo k)) ∧ w.cell? ⟨0, k * 2 + 1, none⟩ = some (.int .i64 (pHi k))
theorem PTab.keep {w w' : World} {B : Nat} {S : Nat → Prop} (h : PTab w B) (hk : Keeps S w w') (hs : ∀ i, i < B → ¬ S i) : PTab w' B := by
  have hb : w'.heap[0]? = w.heap[0]? := hk.block _ (World.block_lt_of_cell? w ⟨0, 0 * 2, none⟩ (h.2 0 (by omega)).1) (hs _ h.1)
  exact ⟨h.1, fun k hk => ⟨(World.cell?_of_block (a := ⟨0, k * 2, none⟩) hb).trans (h.2 k hk).1, (World.cell?_of_block (a := ⟨0, k * 2 + 1, none⟩) hb).trans (h.2 k hk).2⟩⟩
theorem PTab.grew {w w' : World} {B : Nat} (h : PTab w B) (hk : Grew w w') : PTab w' B := h.keep hk fun _ _ e => e
theorem PTab.more {w : World} {B B' : Nat} (h : PTab w B) (hB : B ≤ B') : PTab w B' := ⟨Nat.lt_of_lt_of_le h.1 hB, h.2⟩
theorem PTab.on {w w' : World} (h : PTab w w.heap.size) (hk : Grew w w') : PTab w' w'.heap.size := (h.grew hk).more hk.size

/- series, kind, parameter, cost -/
def okB (x : Clm) : Prop := 0 ≤ x.1 ∧ x.1 < 4096 ∧ 0 ≤ x.2.1 ∧ x.2.1 ≤ 4 ∧ pLo x.2.1.toNat ≤ x.2.2.1 ∧ x.2.2.1 ≤ pHi x.2.1.toNat ∧ 0 ≤ x.2.2.2 ∧ x.2.2.2 ≤ 4398046511104 ∧ (x.2.1 ≠ 0 ∨ x.2.2.2 = 0)
instance (x : Clm) : Decidable (okB x) := by unfold okB; infer_instance
def vbl (x : Clm) (v : Value) : Value := .agg #[.int .i64 x.1, .int .i64 x.2.1, .int .i64 x.2.2.1, .int .i64 x.2.2.2, v]

set_option maxHeartbeats 12800000 in
set_option maxRecDepth 100000 in
theorem valid_any (x : Clm) (A : Option Addr) (n c : Nat) (w : World) (hp : PTab w w.heap.size) :
    Calls Tryz.prog 33 #[vbl x (.slice A n c)] w fun e w' => e = .returned (.bool (decide (okB x))) ∧ Grew w w' := by
  obtain ⟨s, k, p, co⟩ := x
  unfold vbl
  simp only
  have hb0 := Box.new w 39 #[.int .i64 s, .int .i64 k, .int .i64 p, .int .i64 co, .slice A n c]
  have hG0 : Grew w (w.alloc (.cells #[.int .i64 s, .int .i64 k, .int .i64 p, .int .i64 co, .slice A n c] 39)) := (Grew.refl w).alloc _
  have hp1 := hp.grew hG0
  obtain ⟨d, hd⟩ : ∃ d, d = decide (okB (s, k, p, co)) := ⟨_, rfl⟩
  rw [← hd]
  have HD := Lib.hid hd
  clear hd hp
  go_enter Tryz.func33, Tryz.ntmps33
  go_upto_region 1 with fail
  generalize w.alloc (.cells #[.int .i64 s, .int .i64 k, .int .i64 p, .int .i64 co, .slice A n c] 39) = w1 at *
  have c0 : w1.cell? ⟨w.heap.size, 0, none⟩ = some (.int .i64 s) := hb0.cell 0
  have c1 : w1.cell? ⟨w.heap.size, 1, none⟩ = some (.int .i64 k) := hb0.cell 1
  have c2 : w1.cell? ⟨w.heap.size, 2, none⟩ = some (.int .i64 p) := hb0.cell 2
  have c3 : w1.cell? ⟨w.heap.size, 3, none⟩ = some (.int .i64 co) := hb0.cell 3
  clear hb0
  have no : ∀ P : Prop, ¬ okB (s, k, p, co) → d = false := fun _ h => HD.out.trans (decide_eq_false h)
  have NO := Lib.hid no
  clear no
  by_cases h1 : s < 0
  · have t1 : decide (s < 0) = true := by simp [h1]
    obtain rfl := NO.out True (fun h => by unfold okB at h; simp only at h; omega)
    go_wp2_with fail
    go_ret
    exact ⟨rfl, hG0⟩
  have t1 : decide (s < 0) = false := by simp; omega
  by_cases h2 : 4096 ≤ s
  · have t2 : decide (4096 ≤ s) = true := by simp [h2]
    obtain rfl := NO.out True (fun h => by unfold okB at h; simp only at h; omega)
    clear h1
    go_wp2_with fail
    go_ret
    exact ⟨rfl, hG0⟩
  have t2 : decide (4096 ≤ s) = false := by simp; omega
  by_cases h3 : k < 0
  · have t3 : decide (k < 0) = true := by simp [h3]
    obtain rfl := NO.out True (fun h => by unfold okB at h; simp only at h; omega)
    clear h1 h2
    go_wp2_with fail
    go_ret
    exact ⟨rfl, hG0⟩
  have t3 : decide (k < 0) = false := by simp; omega
  by_cases h4 : 4 < k
  · have t4 : decide (4 < k) = true := by simp [h4]
    obtain rfl := NO.out True (fun h => by unfold okB at h; simp only at h; omega)
    clear h1 h2 h3
    go_wp2_with fail
    go_ret
    exact ⟨rfl, hG0⟩
  have t4 : decide (4 < k) = false := by simp; omega
  obtain ⟨kn, rfl⟩ : ∃ kn : Nat, k = (kn : Int) := ⟨k.toNat, by omega⟩
  have hk5 : kn < 5 := by omega
  obtain ⟨pl, ph⟩ := hp1.2 kn hk5
  have i0 : (0 : Int) ≤ (kn : Int) := by omega
  have i5 : (kn : Int) < 5 := by omega
  have hokI : okB (s, (kn : Int), p, co) ↔ (pLo kn ≤ p ∧ p ≤ pHi kn ∧ 0 ≤ co ∧ co ≤ 4398046511104 ∧ ((kn : Int) ≠ 0 ∨ co = 0)) := by
    unfold okB; simp only [Int.toNat_natCast]; omega
  have HOK := Lib.hid hokI
  clear hokI h1 h2 h3 h4
  generalize pLo kn = lo at *
  generalize pHi kn = hi at *
  by_cases h5 : p < lo
  · have t5 : decide (p < lo) = true := by simp [h5]
    obtain rfl := NO.out True (fun h => by have := HOK.out.1 h; omega)
    clear h5
    go_wp2_with fail
    go_quiet (fail)
    go_wp2_with fail
    go_ret
    exact ⟨rfl, Keeps.drewN hG0 _⟩
  have t5 : decide (p < lo) = false := by simp; omega
  by_cases h6 : hi < p
  · have t6 : decide (hi < p) = true := by simp [h6]
    obtain rfl := NO.out True (fun h => by have := HOK.out.1 h; omega)
    clear h5 h6
    go_wp2_with fail
    go_quiet (fail)
    go_wp2_with fail
    go_ret
    exact ⟨rfl, Keeps.drewN hG0 _⟩
  have t6 : decide (hi < p) = false := by simp; omega
  by_cases h7 : co < 0
  · have t7 : decide (0 ≤ co) = false := by simp; omega
    obtain rfl := NO.out True (fun h => by have := HOK.out.1 h; omega)
    clear h5 h6 h7
    go_wp2_with fail
    go_quiet (fail)
    go_wp2_with fail
    go_ret
    exact ⟨rfl, Keeps.drewN hG0 _⟩
  have t7 : decide (0 ≤ co) = true := by simp; omega
  by_cases h8 : 4398046511104 < co
  · have t8 : decide (co ≤ 4398046511104) = false := by simp; omega
    obtain rfl := NO.out True (fun h => by have := HOK.out.1 h; omega)
    clear h5 h6 h7 h8
    go_wp2_with fail
    go_quiet (fail)
    go_wp2_with fail
    go_ret
    exact ⟨rfl, Keeps.drewN hG0 _⟩
  have t8 : decide (co ≤ 4398046511104) = true := by simp; omega
  by_cases h9 : kn = 0
  · have t9 : ((kn : Int) != 0) = false := by rw [bne_eq_false_iff_eq]; omega
    by_cases h10 : co = 0
    · have t10 : (co == 0) = true := by rw [beq_iff_eq]; exact h10
      obtain rfl : d = true := HD.out.trans (decide_eq_true (HOK.out.2 (by omega)))
      clear h5 h6 h7 h8 h9 h10
      go_wp2_with fail
      go_quiet (fail)
      go_wp2_with fail
      go_ret
      exact ⟨rfl, Keeps.drewN hG0 _⟩
    · have t10 : (co == 0) = false := by rw [beq_eq_false_iff_ne]; exact h10
      obtain rfl := NO.out True (fun h => by have := HOK.out.1 h; omega)
      clear h5 h6 h7 h8 h9 h10
      go_wp2_with fail
      go_quiet (fail)
      go_wp2_with fail
      go_ret
      exact ⟨rfl, Keeps.drewN hG0 _⟩
  · have t9 : ((kn : Int) != 0) = true := by rw [bne_iff_ne]; omega
    obtain rfl : d = true := HD.out.trans (decide_eq_true (HOK.out.2 (by omega)))
    clear h5 h6 h7 h8 h9
    go_wp2_with fail
    go_quiet (fail)
    go_wp2_with fail
    go_ret
    exact ⟨rfl, Keeps.drewN hG0 _⟩
end Go.Proofs.YtgkmfblmkfclbaaGreatDoor
namespace Go.Proofs.YtgkmfblmkfclbaaGreatDoor
open Go.ChangeShapes Go.WideShapes Go.ChangeAt Go.RowKit Pl

theorem gPar : Tryz.prog.globalNamed "intervalmon/block.params" = some 0 := by kernel_rfl
theorem gParType : (Tryz.prog.globals[0]?).map (·.type) = some 110 := by kernel_rfl
theorem cellsPar : Tryz.prog.cellsOf 110 = 10 := by kernel_rfl
theorem cellsPar2 : Tryz.prog.cellsOf 109 = 2 := by kernel_rfl
def parRows : List (List Int) := [[0, 0], [1, 1073741824], [0, 1073741824], [1, 4096], [0, 1048576]]
theorem cells_of_tab2 {w : World} {sp : Nat → Bool} {held : Bool} {fuel : Nat} {cs : List Value} {p : List MemPlace}
    (h : DataW.trod (fun _ => ()) Tryz.prog w 0 sp held fuel 110 cs = some (.agg (parRows.map fun zs => Lib.tabData .i64 zs), p)) :
    ∀ k, k < 5 → (cs.drop (k * 2)).take 2 = (parRows.getD k []).map fun z => Value.int .i64 z := by
  cases fuel with
  | zero => simp [DataW.trod] at h
  | succ fuel =>
    simp only [DataW.trod, Tryz.underlying110, cellsPar, cellsPar2] at h
    split at h
    · obtain ⟨xs, hm, hx⟩ := Option.map_eq_some_iff.1 h
      have hxs : xs.map (·.1) = parRows.map fun zs => (Lib.tabData .i64 zs : DataW Unit) := by
        have := congrArg Prod.fst hx
        simpa using this
      intro k hk
      obtain ⟨b, hb, hf⟩ := Lib.mapM_at hm k k (by simp [hk])
      have h2 : (xs.map (·.1))[k]? = some b.1 := by simp [hb]
      rw [hxs] at h2
      have hk5 : k < parRows.length := hk
      rw [List.getElem?_map, List.getElem?_eq_getElem hk5] at h2
      have h3 : b.1 = Lib.tabData .i64 parRows[k] := (Option.some.inj h2).symm
      obtain ⟨b1, b2⟩ := b
      simp only at h3
      subst h3
      have := Lib.cells_of_tab Tryz.underlying109 Tryz.underlying3 cellsInt cellsPar2 hf
      rw [this, List.getD_eq_getElem?_getD, List.getElem?_eq_getElem hk5]
      rfl
    · cases h
theorem params_of {W : World} {a : String × DataW Unit} {rest : List (String × DataW Unit)} (h : laidMet Tryz.prog (a :: ("intervalmon/block.params", Rows.laid_intervalmon_block_params) :: rest) W) : PTab W W.heap.size := by
  obtain ⟨ps, ⟨_, _, _, _, _, q, _, _, _, _, ⟨g', t', cs, fuel, p, q', hg', ht', hvar, hd, _, _⟩, _⟩, _⟩ := h
  obtain rfl := Option.some.inj (gPar.symm.trans hg')
  obtain rfl := Option.some.inj (gParType.symm.trans ht')
  have hc := cells_of_tab2 (p := p) hd
  have hcell : ∀ k, k < 5 → W.cell? ⟨0, k * 2, none⟩ = some (.int .i64 (pLo k)) ∧ W.cell? ⟨0, k * 2 + 1, none⟩ = some (.int .i64 (pHi k)) := by
    intro k hk
    have h1 := hc k hk
    have a0 : cs.toList[k * 2]? = ((parRows.getD k []).map fun z => Value.int .i64 z)[0]? := by
      rw [← h1, List.getElem?_take, if_pos (by omega), List.getElem?_drop]; rfl
    have a1 : cs.toList[k * 2 + 1]? = ((parRows.getD k []).map fun z => Value.int .i64 z)[1]? := by
      rw [← h1, List.getElem?_take, if_pos (by omega), List.getElem?_drop]
    rw [World.var?_cell gPar hvar, World.var?_cell gPar hvar, ← Array.getElem?_toList, ← Array.getElem?_toList, a0, a1]
    have : k = 0 ∨ k = 1 ∨ k = 2 ∨ k = 3 ∨ k = 4 := by omega
    rcases this with rfl | rfl | rfl | rfl | rfl <;> exact ⟨rfl, rfl⟩
  exact ⟨cell_lt (hcell 0 (by omega)).1, hcell⟩
end Go.Proofs.YtgkmfblmkfclbaaGreatDoor
