/- The law BlockEncodes, walked: it returns true and leaves what was there. The law BlockDetects, walked: it returns true and leaves what was there. A block decoded from its encoding; encodings that are equal: plain. The law BlockDecodes, walked: it returns true and leaves what was there. -/
import Derived.Test.YtgajmhpnilkmiaaDoorBlockIdsP24
import Derived.Test.YtgajmhpnilkmiaaDoorBlockIdsP29
import Derived.Deep.RegionHeld3
import Derived.Test.YtgajmhpnilkmiaaDoorBlockIdsP26
namespace Go.Proofs.YtgajmhpnilkmiaaDoor
open Go.RowKit Pl

theorem bEncB_len (x : Clm) (cs : List Clm) : (bEncB x cs).length ≤ 400000 := by
  unfold bEncB
  split
  · rename_i h
    unfold bEncE at h
    split at h
    · rename_i hok
      have h1 := encB_len cs
      rw [encB_ok h] at h1
      have h2 := coreB_len x (pack (cbits cs)) (okB_i64 hok) h1
      have h3 := vint_len10 (n := (coreB x (pack (cbits cs))).length) (by omega)
      have h4 := vint_len10 (hashB_lt blockL (coreB x (pack (cbits cs))))
      unfold wholeB rawB
      simp only [List.length_append]
      omega
    · cases h
  · simp
theorem ld5o {ops : Array Oper} {rest : List Oper} {o : Oper} {a : Act} {w : World} {Q : Exit → Act → World → Prop} (T : TypeId) (hT : (Tryd.prog.info? T).map (·.size) = some 5) {d : TypeDesc} (hu : Tryd.prog.underlying T = some d) (hd : d.isRow = true) (x : Operand) (g off : Nat) (c : Clm) (v : Value) (hgd : o.guard = none) (ho : o.op = .load T x)
    (hx : a.eval x = .pointer (some ⟨g, off, none⟩)) (hb : w.rangeAt g off (cells5 c v))
    (h : wpList Tryd.prog ops Q rest (a.put o.dst (.agg (cells5 c v).toArray)) w) : wpList Tryd.prog ops Q (o :: rest) a w :=
  wpList_load_mid hgd T x ho g off hx (cells5 c v) _ hb hu hd hT h
theorem ld5v {ops : Array Oper} {rest : List Oper} {o : Oper} {a : Act} {w : World} {Q : Exit → Act → World → Prop} (T : TypeId) (hT : (Tryd.prog.info? T).map (·.size) = some 5) {d : TypeDesc} (hu : Tryd.prog.underlying T = some d) (hd : d.isRow = true) (x : Operand) (g : Nat) (c : Clm) (v : Value) (t : TypeId) (hgd : o.guard = none) (ho : o.op = .load T x)
    (hx : a.eval x = .pointer (some ⟨g, 0, none⟩)) (hb : Box w g t (cells5 c v).toArray)
    (h : wpList Tryd.prog ops Q rest (a.put o.dst (.agg #[.int .i64 c.1, .int .i64 c.2.1, .int .i64 c.2.2.1, .int .i64 c.2.2.2, v])) w) : wpList Tryd.prog ops Q (o :: rest) a w := ld5 T hT hu hd x g c v t hgd ho hx hb h
theorem range_grew {w w' : World} {g off : Nat} {xs : List Value} (h : w.rangeAt g off xs) (k : Grew w w') : w'.rangeAt g off xs := fun j u hu => by
  have h1 := h j u hu
  exact (World.cell?_of_block (k.block g (World.block_lt_of_cell? w _ h1) (fun e => e))).trans h1
/- a slice of claims appended in a region that draws its order -/
theorem step_anyG {w : World} {base : Nat} {v : Value} {cs : List Clm} {ops : Array Oper} {o : Oper} {a : Act} {K : Act → World → Prop} {Q : Exit → Act → World → Prop} {E : Prop} (hgd : o.guard = none) (s x : Operand)
    (ho : o.op = .call { callee := .builtin .append, args := #[s, x], argTypes := #[53, 53] })
    (hs : a.eval s = v) (hown : MineC w base v cs) {B : Nat} {sv : Value} {ds : List Clm} (hx : a.eval x = sv) (hr : RdG w B sv ds)
    (hn : cs.length + ds.length ≤ 1099511627776) (hbase : base ≤ w.heap.size)
    (h : ∀ A m cap w', (cs ++ ds).length = m → MineC w' base (.slice A m cap) (cs ++ ds) → Keeps (fun i => v.ownBlock = some i) w w' →
      ((Value.slice A m cap).ownBlock = v.ownBlock ∨ (Value.slice A m cap).ownBlock = some w.heap.size) → K (a.put o.dst (.slice A m cap)) w') :
    if Region.wanted o (yielded ops a.tmps) = true then Oper.wp Tryd.prog o a w K Q else E := by
  have hw : Region.wanted o (yielded ops a.tmps) = true := by simp [Region.wanted, hgd]
  rw [if_pos hw]
  obtain ⟨v', w', hrun, h2, h3, h4⟩ := run_appG o.type hown hr hn hbase
  unfold Oper.wp execOp
  simp only [ho, resolve, invoke, builtin, Sem.run_bind, Sem.run_pure, Result.andThen_ok, List.map_toArray, List.map_cons, List.map_nil, hs, hx, hrun]
  obtain ⟨A, m, cap, rfl, hm, _⟩ := h2.slice
  exact h A m cap w' hm.symm h2 h3 h4

theorem own_ne {g k n c : Nat} (h : g ≠ k) : ¬ (Value.slice (some ⟨g, 0, none⟩) n c).ownBlock = some k := fun e => h (by simpa [Value.ownBlock] using e)
theorem MineC.empty {w : World} {base g : Nat} (hb : Box w g 116 #[]) (hg : base ≤ g) : MineC w base (.slice (some ⟨g, 0, none⟩) 0 0) [] :=
  ⟨by simp [flat], .inr ⟨g, 0, #[], rfl, hg, hb, Nat.le_refl _, by unfold maxLen; omega, rfl, rfl⟩⟩
theorem RdG.one {w : World} {g : Nat} {d : Clm} {t : TypeId} (hb : Box w g t (cells4 d).toArray) : RdG w w.heap.size (.slice (some ⟨g, 0, none⟩) 1 1) [d] := by
  refine RdC.rdG ⟨_, 1, rfl, Nat.le_refl _, fun _ => ⟨_, _, rfl, hb.lt, fun j u hu => ?_⟩⟩
  rw [Nat.zero_add, hb.cell, ← hu, flat_one]
  simp
/- the claims of a block stored -/
theorem put_claims {w6 w8 : World} {g : Nat} {T : TypeId} {X : Clm} {u : Value} {A : Option Addr} {m cap : Nat} {ds : List Clm} (hb : Box w6 g T (cells5 X u).toArray) (hg8 : Grew w6 w8) (hM : MineC w8 w6.heap.size (.slice A m cap) ds) :
    Box (w8.setCell ⟨g, 4, none⟩ (.slice A m cap)) g T (cells5 X (.slice A m cap)).toArray ∧ MineC (w8.setCell ⟨g, 4, none⟩ (.slice A m cap)) w6.heap.size (.slice A m cap) ds ∧ Keeps (fun i => i = g) w6 (w8.setCell ⟨g, 4, none⟩ (.slice A m cap)) := by
  have hk : Keeps (fun i => i = g) w8 (w8.setCell ⟨g, 4, none⟩ (.slice A m cap)) := (Keeps.refl (fun i => i = g) w8).setCell (p := ⟨g, 4, none⟩) (.inl rfl) _
  refine ⟨?_, hM.keep hk (fun i e e2 => ?_), Keeps.trans hg8.keeps hk⟩
  · have := (hb.grew hg8).set_ 4 (.slice A m cap)
    simpa [cells5] using this
  · have := (hM.lt i e).1
    have := hb.lt
    omega
end Go.Proofs.YtgajmhpnilkmiaaDoor
namespace Go.Proofs.YtgajmhpnilkmiaaDoor
open Go.RowKit Pl

theorem WR.keepS {w w' : World} {base g : Nat} {v : Value} {bs : List Nat} {a : Nat} {er : Int} {S : Nat → Prop} (h : WR w base g v bs a er) (hk : Keeps S w w') (hg : ¬ S g) (hv : ∀ k, v.ownBlock = some k → ¬ S k) : WR w' base g v bs a er :=
  ⟨h.box.keep hk hg, h.row.keep hk hv, h.bytes, h.small, h.here⟩
theorem core_len9 {x : Clm} (hx : okB x) {cs : List Clm} (hl : cs.length ≤ 9) : (coreB x (pack (cbits cs))).length ≤ 1000 := by
  obtain ⟨x1, x2, x3, x4⟩ := okB_i64 hx
  have h1 := cbits_length cs
  have h2 : (pack (cbits cs)).length ≤ 400 := by rw [pack_length]; omega
  have l1 := vint_len10 (zig_lt x1)
  have l2 := vint_len10 (zig_lt x2)
  have l3 := vint_len10 (zig_lt x3)
  have l4 := vint_len10 (zig_lt x4)
  have l5 := vint_len10 (n := (pack (cbits cs)).length) (by omega)
  unfold coreB rawB
  simp only [List.length_append]
  omega
theorem vint_pos (n : Nat) : 1 ≤ (vint n).length := by
  by_cases hh : n < 128
  · rw [vint_lt hh]; simp
  · rw [vint_ge hh]; simp
theorem whole_len0 (core : List Nat) (hh : Nat) (hl : core.length ≤ 1000) (h : hh < 18446744073709551616) : (rawB core ++ vint hh).length = (vint core.length).length + core.length + (vint hh).length ∧ (vint core.length).length ≤ 10 ∧ (vint hh).length ≤ 10 ∧ 1 ≤ (vint hh).length := by
  refine ⟨?_, vint_len10 (by omega), vint_len10 h, vint_pos hh⟩
  rw [List.length_append, rawB, List.length_append]
theorem whole_len {core : List Nat} (h : core.length ≤ 1000) : (wholeB core).length = (vint core.length).length + core.length + (vint (hashB blockL core)).length ∧ (vint core.length).length ≤ 10 ∧ (vint (hashB blockL core)).length ≤ 10 ∧ 1 ≤ (vint (hashB blockL core)).length := whole_len0 core _ h (hashB_lt blockL core)
theorem made_enc {X : Clm} {cs : List Clm} (hx : okB X) (hc : ∀ c ∈ cs, okC c) (hl : cs.length ≤ 9) : bEncE X cs = 0 ∧ bEncB X cs = wholeB (coreB X (pack (cbits cs))) := by
  have h1 : encE cs = 0 := by unfold encE; rw [if_neg (by omega), if_pos hc]
  have h2 : bEncE X cs = 0 := by unfold bEncE; rw [if_pos hx, h1]
  exact ⟨h2, by unfold bEncB; rw [if_pos h2]⟩
theorem xor_ne {x d : Nat} (hd : 0 < d) : x ^^^ d ≠ x := fun h => by
  have h2 := congrArg (x ^^^ ·) h
  simp only [← Nat.xor_assoc, Nat.xor_self, Nat.zero_xor] at h2
  omega
/- a byte stored into a cell -/
theorem st_u8 {ops : Array Oper} {rest : List Oper} {o : Oper} {a : Act} {w : World} {Q : Exit → Act → World → Prop} (x y : Operand) (g k : Nat) (n : Int) (u : Value) (hgd : o.guard = none) (ho : o.op = .store 5 x y)
    (hx : a.eval x = .pointer (some ⟨g, k, none⟩)) (hy : a.eval y = .int .u8 n) (hc : w.cell? ⟨g, k, none⟩ = some u) (hf : w.frozen? ⟨g, k, none⟩ = false)
    (h : ∀ w', w' = w.setCell ⟨g, k, none⟩ (.int .u8 n) → wpList Tryd.prog ops Q rest (a.put o.dst undef) w') : wpList Tryd.prog ops Q (o :: rest) a w := by
  refine wpList_plain hgd fun K hK => ?_
  unfold Oper.wp execOp
  simp only [ho, hx, hy]
  go_simp
  exact hK _ _ (h _ rfl)
end Go.Proofs.YtgajmhpnilkmiaaDoor
namespace Go.Proofs.YtgajmhpnilkmiaaDoor
open Go.RowKit Pl

theorem dec_whole {X : Clm} {cs : List Clm} (hx : okB X) (hc : ∀ c ∈ cs, okC c) (hl : cs.length ≤ 9) : decB (wholeB (coreB X (pack (cbits cs)))) = .inr (X, cs) := by
  have hcl := core_len9 hx hl
  have hpl : (pack (cbits cs)).length ≤ 400 := by
    rw [pack_length]
    have := cbits_length cs
    omega
  rw [decB_whole (by omega), inB_core (okB_i64 hx) (by omega)]
  have hd : refDecode (pack (cbits cs)) = some cs := by
    rw [← decode_eq_ref _ (pack_bytes _)]
    exact decode_enc cs hc (by omega)
  rw [hd]
  simp only
  rw [if_pos hx]
theorem same_enc {X Y : Clm} {cs ds : List Clm} (hx : okB X) (hc : ∀ c ∈ cs, okC c) (hl : cs.length ≤ 9) (hy : okB Y) (hd : ∀ c ∈ ds, okC c) (hl' : ds.length ≤ 9) :
    decide (wholeB (coreB X (pack (cbits cs))) = wholeB (coreB Y (pack (cbits ds)))) = decide (X = Y ∧ cs = ds) := by
  have h1 := dec_whole hx hc hl
  have h2 := dec_whole hy hd hl'
  have key : wholeB (coreB X (pack (cbits cs))) = wholeB (coreB Y (pack (cbits ds))) ↔ (X = Y ∧ cs = ds) := by
    constructor
    · intro e
      rw [e, h2] at h1
      injection h1 with h1
      injection h1 with h3 h4
      exact ⟨h3.symm, h4.symm⟩
    · rintro ⟨e1, e2⟩
      rw [e1, e2]
  rw [decide_eq_decide]
  exact key
end Go.Proofs.YtgajmhpnilkmiaaDoor
namespace Go.Proofs.YtgajmhpnilkmiaaDoor
open Go.RowKit Pl

theorem core_lenI {x : Clm} (hx : I64 x.1 ∧ I64 x.2.1 ∧ I64 x.2.2.1 ∧ I64 x.2.2.2) {cb : List Nat} (hl : cb.length ≤ 400) : (coreB x cb).length ≤ 1000 := by
  obtain ⟨x1, x2, x3, x4⟩ := hx
  have l1 := vint_len10 (zig_lt x1)
  have l2 := vint_len10 (zig_lt x2)
  have l3 := vint_len10 (zig_lt x3)
  have l4 := vint_len10 (zig_lt x4)
  have l5 := vint_len10 (n := cb.length) (by omega)
  unfold coreB rawB
  simp only [List.length_append]
  omega
theorem core_pos (x : Clm) (cb : List Nat) : 1 ≤ (coreB x cb).length := by
  have := vint_pos (zig x.1)
  unfold coreB
  simp only [List.length_append]
  omega
theorem setC_I64 {x : Clm} (hx : I64 x.1 ∧ I64 x.2.1 ∧ I64 x.2.2.1 ∧ I64 x.2.2.2) {k : Nat} {n : Int} (hn : I64 n) : I64 (setC x k n).1 ∧ I64 (setC x k n).2.1 ∧ I64 (setC x k n).2.2.1 ∧ I64 (setC x k n).2.2.2 := by
  obtain ⟨x1, x2, x3, x4⟩ := hx
  unfold setC
  split <;> exact ⟨by assumption, by assumption, by assumption, by assumption⟩
theorem Mine.nilc {w : World} {base : Nat} {e : TypeId} {v : Value} {xs : List Value} (h : Mine w base e v xs) : ∀ n c, v = .slice none n c → c = 0 := by
  rcases h.form with ⟨rfl, _⟩ | ⟨g, cap, cur, rfl, _⟩
  · intro n c e; cases e; rfl
  · intro n c e; cases e
theorem Mine.setB {w : World} {base r n c : Nat} {bs : List Nat} (h : Mine w base 5 (.slice (some ⟨r, 0, none⟩) n c) (bs.map vb)) {k y : Nat} (hk : k < bs.length) : Mine (w.setCell ⟨r, k, none⟩ (.int .u8 (y : Nat))) base 5 (.slice (some ⟨r, 0, none⟩) n c) ((bs.set k y).map vb) := by
  rw [List.map_set]
  exact h.store rfl (by rw [List.length_map]; exact hk) _
theorem Mine.froz {w : World} {base r n c : Nat} {e : TypeId} {xs : List Value} (h : Mine w base e (.slice (some ⟨r, 0, none⟩) n c) xs) (k : Nat) : w.frozen? ⟨r, k, none⟩ = false := by
  rcases h.form with ⟨h, _⟩ | ⟨g, cap, cur, hv, _, hbox, _⟩
  · cases h
  · injection hv with hv
    injection hv with hv
    injection hv with hv
    subst hv
    exact hbox.frozen _
theorem whole_len2 {core : List Nat} (h : core.length ≤ 1000) : (wholeB core).length ≤ 1020 ∧ 1 ≤ (wholeB core).length := by
  obtain ⟨h1, h2, h3, h4⟩ := whole_len h
  omega
theorem whole_bytes {core : List Nat} (h : Bytes core) : Bytes (wholeB core) := by unfold wholeB; exact bytes_app (rawB_bytes h) (vint_bytes _)
end Go.Proofs.YtgajmhpnilkmiaaDoor
