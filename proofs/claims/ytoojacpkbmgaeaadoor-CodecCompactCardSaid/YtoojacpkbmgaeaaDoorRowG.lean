/- A slice of claims that came in, wherever it lies; append of it; Size. -/
import Derived.Test.YtoojacpkbmgaeaaDoorRowC
import Derived.Test.YtoojacpkbmgaeaaDoorEncode
namespace Go.Proofs.YtoojacpkbmgaeaaDoor
open Go.RowKit Pl

def RdG (w : World) (B : Nat) (v : Value) (cs : List Clm) : Prop :=
  ∃ A c, v = .slice A cs.length c ∧ cs.length ≤ c ∧ (0 < cs.length → ∃ ad, A = some ad ∧ ad.block < B ∧ ∀ j u, (flat cs)[j]? = some u → w.cell? (ad.add j) = some u)
section
variable {w w' : World} {B B' : Nat} {v : Value} {cs : List Clm} {S : Nat → Prop}
theorem RdC.rdG (h : RdC w B v cs) : RdG w B v cs := by
  obtain ⟨A, c, hv, hc, hx⟩ := h
  refine ⟨A, c, hv, hc, fun hn => ?_⟩
  obtain ⟨b, o, e, hb, hcell⟩ := hx hn
  exact ⟨⟨b, o, none⟩, e, hb, fun j u hu => by rw [add_none]; exact hcell j u hu⟩
theorem RdG.keep (h : RdG w B v cs) (hB : B ≤ w.heap.size) (hk : Keeps S w w') (hs : ∀ i, i < B → ¬ S i) : RdG w' B v cs := by
  obtain ⟨A, c, hv, hc, hx⟩ := h
  refine ⟨A, c, hv, hc, fun hn => ?_⟩
  obtain ⟨ad, e, hb, hcell⟩ := hx hn
  refine ⟨ad, e, hb, fun j u hu => (World.cell?_of_block ?_).trans (hcell j u hu)⟩
  rw [block_add]
  exact hk.block _ (by omega) (hs _ hb)
theorem RdG.grew (h : RdG w B v cs) (hB : B ≤ w.heap.size) (hk : Grew w w') : RdG w' B v cs := h.keep hB hk fun _ _ e => e
theorem RdG.more (h : RdG w B v cs) (hB : B ≤ B') : RdG w B' v cs := by
  obtain ⟨A, c, hv, hc, hx⟩ := h
  refine ⟨A, c, hv, hc, fun hn => ?_⟩
  obtain ⟨ad, e, hb, hcell⟩ := hx hn
  exact ⟨ad, e, by omega, hcell⟩
theorem RdG.form (h : RdG w B v cs) : ∃ A n c, v = .slice A n c ∧ n = cs.length ∧ n ≤ c := by
  obtain ⟨A, c, rfl, hc, _⟩ := h
  exact ⟨A, _, c, rfl, rfl, hc⟩
theorem RdG.some_ {A : Option Addr} {n c : Nat} (h : RdG w B (.slice A n c) cs) (hn : 0 < cs.length) : ∃ ad, A = some ad := by
  obtain ⟨A', c', hv, _, hx⟩ := h
  injection hv with hA
  subst hA
  obtain ⟨ad, e, _⟩ := hx hn
  exact ⟨ad, e⟩
theorem flat_take (cs : List Clm) (m j : Nat) (u : Value) (h : (flat (cs.take m))[j]? = some u) : (flat cs)[j]? = some u := by
  have e : flat cs = flat (cs.take m) ++ flat (cs.drop m) := by rw [← flat_append, List.take_append_drop]
  have hj : j < (flat (cs.take m)).length := (List.getElem?_eq_some_iff.1 h).1
  rw [e, List.getElem?_append_left hj]
  exact h
theorem RdG.take {A : Option Addr} {n c : Nat} (h : RdG w B (.slice A n c) cs) {m : Nat} (hm : m ≤ cs.length) : RdG w B (.slice A m c) (cs.take m) := by
  obtain ⟨A', c', hv, hc, hx⟩ := h
  injection hv with hA _ hcc
  subst hA hcc
  have hl : (cs.take m).length = m := by rw [List.length_take]; omega
  refine ⟨A, c, by rw [hl], by omega, fun h0 => ?_⟩
  obtain ⟨ad, rfl, hb, hcell⟩ := hx (by omega)
  exact ⟨ad, rfl, hb, fun j u hu => hcell j u (flat_take cs m j u hu)⟩
end
section
variable {w : World} {base : Nat} {v : Value} {cs : List Clm}
set_option maxRecDepth 100000 in
theorem run_appG (ty : TypeId) (hown : MineC w base v cs) {B : Nat} {sv : Value} {ds : List Clm} (hr : RdG w B sv ds)
    (hn : cs.length + ds.length ≤ 1099511627776) (hbase : base ≤ w.heap.size) :
    ∃ v' w', (Builtin.append_ #[25, 25] ty #[v, sv]).run Tryd.prog w = .ok v' w' ∧ MineC w' base v' (cs ++ ds) ∧ Keeps (fun i => v.ownBlock = some i) w w' ∧
      (v'.ownBlock = v.ownBlock ∨ v'.ownBlock = some w.heap.size) := by
  obtain ⟨i, hi, hz, hs, hby⟩ := info_parts infoC
  have hr0 := hr
  obtain ⟨A, c, rfl, hc, hx⟩ := hr
  rcases A with _ | ad
  · have hy : ds = [] := by
      rcases ds with _ | ⟨y, ys⟩
      · rfl
      · obtain ⟨ad, h, _⟩ := hx (by simp)
        cases h
    subst hy
    exact run_appC ty hown (B := B) ⟨none, c, rfl, hc, fun h => absurd h (by simp)⟩ hn hbase
  · have hcells : ∀ j u, (flat ds)[j]? = some u → w.cell? (ad.add j) = some u := by
      intro j u hu
      rcases ds with _ | ⟨y, ys⟩
      · simp [flat] at hu
      · obtain ⟨ad', h, _, hc⟩ := hx (by simp)
        injection h with h
        subst h
        exact hc j u hu
    obtain ⟨v', w', hrun, h2, h3, _, h5⟩ := run_append_own_at (P := Tryd.prog) w base 25 ty 24 i _ 4 32 Tryd.underlying25 hi hz hs hby rfl (by decide) v cs.length (flat cs) hown ad ds.length c (flat ds) (flat_length ds) hcells oneC (by unfold maxLen; omega) (by omega) hbase
    refine ⟨v', w', hrun, ?_, (Keeps.refl _ w).grown h3 (fun k e _ => e), h5⟩
    unfold MineC
    rw [List.length_append, flat_append]
    exact h2
theorem app_anyG {ops : Array Oper} {rest : List Oper} {o : Oper} {a : Act} {Q : Exit → Act → World → Prop} (hgd : o.guard = none) (s x : Operand)
    (ho : o.op = .call { callee := .builtin .append, args := #[s, x], argTypes := #[25, 25] })
    (hs : a.eval s = v) (hown : MineC w base v cs) {B : Nat} {sv : Value} {ds : List Clm} (hx : a.eval x = sv) (hr : RdG w B sv ds)
    (hn : cs.length + ds.length ≤ 1099511627776) (hbase : base ≤ w.heap.size)
    (h : ∀ A m cap w', (cs ++ ds).length = m → MineC w' base (.slice A m cap) (cs ++ ds) → Keeps (fun i => v.ownBlock = some i) w w' →
      ((Value.slice A m cap).ownBlock = v.ownBlock ∨ (Value.slice A m cap).ownBlock = some w.heap.size) → wpList Tryd.prog ops Q rest (a.put o.dst (.slice A m cap)) w') : wpList Tryd.prog ops Q (o :: rest) a w := by
  refine wpList_plain hgd fun K hK => ?_
  obtain ⟨v', w', hrun, h2, h3, h4⟩ := run_appG o.type hown hr hn hbase
  unfold Oper.wp execOp
  simp only [ho, resolve, invoke, builtin, Sem.run_bind, Sem.run_pure, Result.andThen_ok, List.map_toArray, List.map_cons, List.map_nil, hs, hx, hrun]
  obtain ⟨A, m, cap, rfl, hm, _⟩ := h2.slice
  exact hK _ _ (h A m cap w' hm.symm h2 h3 h4)
theorem Grew.appC {w0 w' : World} (h0 : Grew w0 w) (hown : MineC w w0.heap.size v cs) (hk : Keeps (fun i => v.ownBlock = some i) w w') : Grew w0 w' :=
  Keeps.then_ h0 hk fun i hi e => by have := (hown.lt i e).1; omega
end

/- how many bytes an encoding has -/
theorem encB_len (cs : List Clm) : (encB cs).length ≤ 200000 := by
  unfold encB
  split
  · rename_i h
    unfold encE at h
    split at h
    · omega
    · have := cbits_length cs
      rw [pack_length]; omega
  · simp
theorem encB_ok {cs : List Clm} (h : encE cs = 0) : encB cs = pack (cbits cs) := by unfold encB; rw [if_pos h]
theorem encB_no {cs : List Clm} (h : encE cs ≠ 0) : encB cs = [] := by unfold encB; rw [if_neg h]
/- what Encode returns, whether or not it succeeds -/
def EncAll (cs : List Clm) (w : World) (e : Ending) (w' : World) : Prop :=
  ∃ v, e = .returned (.tuple #[v, .int .i64 (encE cs)]) ∧ Mine w' w.heap.size 5 v ((encB cs).map vb) ∧ Grew w w'
theorem EncPost.all {cs : List Clm} {w w' : World} {e : Ending} (h : EncPost cs w e w') : EncAll cs w e w' := by
  obtain ⟨hg, ⟨h0, v, rfl, hm⟩ | ⟨h0, rfl⟩⟩ := h
  · exact ⟨v, by rw [h0], by rw [encB_ok h0]; exact hm, hg⟩
  · exact ⟨_, rfl, by rw [encB_no h0]; exact Mine.nil _ _ _, hg⟩
set_option maxHeartbeats 1600000 in
theorem size_any (v : Value) (cs : List Clm) (w : World) (h : RdC w w.heap.size v cs) (hl : cs.length ≤ 1000000000) (ht : Tab w w.heap.size) :
    Calls Tryd.prog 41 #[v] w fun e w' => e = .returned (.int .i64 ((encB cs).length : Nat)) ∧ Grew w w' := by
  have HE := Lib.hid (encode_any v cs w h hl ht)
  obtain ⟨A, n, c, rfl, hn, hc⟩ := h.form
  clear h hn ht
  go_enter Tryd.func41, Tryd.ntmps41
  go_wp2_with fail
  refine HE.out.mono ?_
  rintro e w2 hp
  obtain ⟨v2, rfl, k1, k2⟩ := hp.all
  obtain ⟨A2, n2, c2, rfl, h2⟩ := k1.slice
  rw [List.length_map] at h2
  have H2 := Lib.hid h2
  clear h2 hp
  go_wp2_with fail
  go_ret
  exact ⟨by rw [H2.out]; rfl, k2⟩
end Go.Proofs.YtoojacpkbmgaeaaDoor
