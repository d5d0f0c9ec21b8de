/- The law BlockEncodes, walked: it returns true and leaves what was there. -/
import Derived.Test.YtjiiiimhegkklaaDoorBlockDecodesP29
import Derived.Test.YtjiiiimhegkklaaDoorBlockDecodesP37
import Derived.Test.YtjiiiimhegkklaaDoorBlockDecodesP35
import Derived.Deep.RegionHeld3
namespace Go.Proofs.YtjiiiimhegkklaaDoor
open Go.RowKit Pl

theorem bEncB_len (x : Clm) (cs : List Clm) : (bEncB x cs).length ≤ 400000 := by
  unfold bEncB
  split
  · rename_i h
    unfold bEncE at h
    split at h
    · rename_i hok
      have h1 := encB_len cs
      rw [encB_ok h] at h1
      have h2 := coreB_len x (pack (cbits cs)) (okB_i64 hok) h1
      have h3 := vint_len10 (n := (coreB x (pack (cbits cs))).length) (by omega)
      have h4 := vint_len10 (hashB_lt blockL (coreB x (pack (cbits cs))))
      unfold wholeB rawB
      simp only [List.length_append]
      omega
    · cases h
  · simp
theorem ld5o {ops : Array Oper} {rest : List Oper} {o : Oper} {a : Act} {w : World} {Q : Exit → Act → World → Prop} (T : TypeId) (hT : (Tryd.prog.info? T).map (·.size) = some 5) {d : TypeDesc} (hu : Tryd.prog.underlying T = some d) (hd : d.isRow = true) (x : Operand) (g off : Nat) (c : Clm) (v : Value) (hgd : o.guard = none) (ho : o.op = .load T x)
    (hx : a.eval x = .pointer (some ⟨g, off, none⟩)) (hb : w.rangeAt g off (cells5 c v))
    (h : wpList Tryd.prog ops Q rest (a.put o.dst (.agg (cells5 c v).toArray)) w) : wpList Tryd.prog ops Q (o :: rest) a w :=
  wpList_load_mid hgd T x ho g off hx (cells5 c v) _ hb hu hd hT h
theorem ld5v {ops : Array Oper} {rest : List Oper} {o : Oper} {a : Act} {w : World} {Q : Exit → Act → World → Prop} (T : TypeId) (hT : (Tryd.prog.info? T).map (·.size) = some 5) {d : TypeDesc} (hu : Tryd.prog.underlying T = some d) (hd : d.isRow = true) (x : Operand) (g : Nat) (c : Clm) (v : Value) (t : TypeId) (hgd : o.guard = none) (ho : o.op = .load T x)
    (hx : a.eval x = .pointer (some ⟨g, 0, none⟩)) (hb : Box w g t (cells5 c v).toArray)
    (h : wpList Tryd.prog ops Q rest (a.put o.dst (.agg #[.int .i64 c.1, .int .i64 c.2.1, .int .i64 c.2.2.1, .int .i64 c.2.2.2, v])) w) : wpList Tryd.prog ops Q (o :: rest) a w := ld5 T hT hu hd x g c v t hgd ho hx hb h
theorem range_grew {w w' : World} {g off : Nat} {xs : List Value} (h : w.rangeAt g off xs) (k : Grew w w') : w'.rangeAt g off xs := fun j u hu => by
  have h1 := h j u hu
  exact (World.cell?_of_block (k.block g (World.block_lt_of_cell? w _ h1) (fun e => e))).trans h1
/- a slice of claims appended in a region that draws its order -/
theorem step_anyG {w : World} {base : Nat} {v : Value} {cs : List Clm} {ops : Array Oper} {o : Oper} {a : Act} {K : Act → World → Prop} {Q : Exit → Act → World → Prop} {E : Prop} (hgd : o.guard = none) (s x : Operand)
    (ho : o.op = .call { callee := .builtin .append, args := #[s, x], argTypes := #[25, 25] })
    (hs : a.eval s = v) (hown : MineC w base v cs) {B : Nat} {sv : Value} {ds : List Clm} (hx : a.eval x = sv) (hr : RdG w B sv ds)
    (hn : cs.length + ds.length ≤ 1099511627776) (hbase : base ≤ w.heap.size)
    (h : ∀ A m cap w', (cs ++ ds).length = m → MineC w' base (.slice A m cap) (cs ++ ds) → Keeps (fun i => v.ownBlock = some i) w w' →
      ((Value.slice A m cap).ownBlock = v.ownBlock ∨ (Value.slice A m cap).ownBlock = some w.heap.size) → K (a.put o.dst (.slice A m cap)) w') :
    if Region.wanted o (yielded ops a.tmps) = true then Oper.wp Tryd.prog o a w K Q else E := by
  have hw : Region.wanted o (yielded ops a.tmps) = true := by simp [Region.wanted, hgd]
  rw [if_pos hw]
  obtain ⟨v', w', hrun, h2, h3, h4⟩ := run_appG o.type hown hr hn hbase
  unfold Oper.wp execOp
  simp only [ho, resolve, invoke, builtin, Sem.run_bind, Sem.run_pure, Result.andThen_ok, List.map_toArray, List.map_cons, List.map_nil, hs, hx, hrun]
  obtain ⟨A, m, cap, rfl, hm, _⟩ := h2.slice
  exact h A m cap w' hm.symm h2 h3 h4

theorem own_ne {g k n c : Nat} (h : g ≠ k) : ¬ (Value.slice (some ⟨g, 0, none⟩) n c).ownBlock = some k := fun e => h (by simpa [Value.ownBlock] using e)
theorem MineC.empty {w : World} {base g : Nat} (hb : Box w g 24 #[]) (hg : base ≤ g) : MineC w base (.slice (some ⟨g, 0, none⟩) 0 0) [] :=
  ⟨by simp [flat], .inr ⟨g, 0, #[], rfl, hg, hb, Nat.le_refl _, by unfold maxLen; omega, rfl, rfl⟩⟩
theorem RdG.one {w : World} {g : Nat} {d : Clm} {t : TypeId} (hb : Box w g t (cells4 d).toArray) : RdG w w.heap.size (.slice (some ⟨g, 0, none⟩) 1 1) [d] := by
  refine RdC.rdG ⟨_, 1, rfl, Nat.le_refl _, fun _ => ⟨_, _, rfl, hb.lt, fun j u hu => ?_⟩⟩
  rw [Nat.zero_add, hb.cell, ← hu, flat_one]
  simp
/- the claims of a block stored -/
theorem put_claims {w6 w8 : World} {g : Nat} {T : TypeId} {X : Clm} {u : Value} {A : Option Addr} {m cap : Nat} {ds : List Clm} (hb : Box w6 g T (cells5 X u).toArray) (hg8 : Grew w6 w8) (hM : MineC w8 w6.heap.size (.slice A m cap) ds) :
    Box (w8.setCell ⟨g, 4, none⟩ (.slice A m cap)) g T (cells5 X (.slice A m cap)).toArray ∧ MineC (w8.setCell ⟨g, 4, none⟩ (.slice A m cap)) w6.heap.size (.slice A m cap) ds ∧ Keeps (fun i => i = g) w6 (w8.setCell ⟨g, 4, none⟩ (.slice A m cap)) := by
  have hk : Keeps (fun i => i = g) w8 (w8.setCell ⟨g, 4, none⟩ (.slice A m cap)) := (Keeps.refl (fun i => i = g) w8).setCell (p := ⟨g, 4, none⟩) (.inl rfl) _
  refine ⟨?_, hM.keep hk (fun i e e2 => ?_), Keeps.trans hg8.keeps hk⟩
  · have := (hb.grew hg8).set_ 4 (.slice A m cap)
    simpa [cells5] using this
  · have := (hM.lt i e).1
    have := hb.lt
    omega
set_option maxHeartbeats 6400000 in
set_option maxRecDepth 100000 in
theorem blockEncodes_walk (n : Int) (v0 : Value) (l : List Int) (at_ to_ : Int) (cl : Clm) (w : World) (hn : I64 n) (h0 : Rd w w.heap.size v0 (l.map vi)) (hi : ∀ x ∈ l, I64 x) (hl : l.length ≤ 1000000000000000) (ha : I64 at_) (ht : Tab w w.heap.size) (hp : PTab w w.heap.size) :
    Calls Tryd.prog 3 #[.int .i64 n, v0, .int .i64 at_, .int .i64 to_, .agg #[.int .i64 cl.1, .int .i64 cl.2.1, .int .i64 cl.2.2.1, .int .i64 cl.2.2.2]] w fun e w' => e = .returned (.bool true) ∧ Grew w w' := by
  have HG := Lib.hid ((Grew.refl w).alloc (.cells (cells4 cl).toArray 24))
  have HB9 := Lib.hid (Box.new w 24 (cells4 cl).toArray)
  have HM := Lib.hid (made_any n v0 l _ hn ((h0.grew (Nat.le_refl _) HG.out).more HG.out.size) hi hl)
  have HT := Lib.hid ht
  have HP := Lib.hid hp
  obtain ⟨A0, n0, c0, rfl, -, -⟩ := h0.form
  clear h0 hi ht hp
  generalize madeX n = X at *
  go_enter Tryd.func3, Tryd.ntmps3
  go_upto_region 1 with fail
  change Code.wp _ _ _ _ (w.alloc (.cells (cells4 cl).toArray 24))
  generalize w.alloc (.cells (cells4 cl).toArray 24) = w1 at *
  go_wp2_with fail
  refine HM.out.mono ?_
  rintro e w2 ⟨v2, cs, rfl, q1, q2, q3, q4⟩
  obtain ⟨A2, m2, c2, rfl, -⟩ := q1.slice
  have HB := Lib.hid (fun w' => bent_any X at_ to_ A2 m2 c2 w' ha)
  unfold vbl at HB ⊢
  have hG2 := HG.out.trans q4
  have hb9 := HB9.out.grew q4
  have hO9 : Off (.slice A2 m2 c2) w.heap.size := fun i e e2 => by have := (q1.lt i e).1; have := HB9.out.lt; omega
  have hO2 : ∀ i, (Value.slice A2 m2 c2).ownBlock = some i → i < w2.heap.size := fun i e => (q1.lt i e).2
  have HO9 := Lib.hid hO9
  have HO2 := Lib.hid hO2
  have hlt9 := hb9.lt
  clear hO9 hO2 HM
  go_wp2_with (first | (refine st5 27 infoR (.tmp 11) (.tmp 22) w2.heap.size X zc (.slice A2 m2 c2) (.slice none 0 0) 27 rfl rfl rfl rfl rfl (Box.new w2 27 (cells5 zc (.slice none 0 0)).toArray) ?_; intro w3 hb3 hk3) | (refine ld5 27 infoR Tryd.underlying27 rfl (.tmp 11) w2.heap.size X (.slice A2 m2 c2) 27 rfl rfl rfl hb3 ?_))
  have m3 := (q1.alloc (.cells (cells5 zc (.slice none 0 0)).toArray 27)).keep hk3 (fun i e e2 => by have := HO2.out i e; omega)
  have hG3 : Grew w w3 := Keeps.then_ (hG2.alloc _) hk3 (fun i hi e => by have := hG2.size; omega)
  have hb93 := (hb9.alloc (.cells (cells5 zc (.slice none 0 0)).toArray 27)).keep hk3 (by omega)
  clear hk3 hG2 hb9 q1 HB9 HG q4
  refine (HB.out w3).mono ?_
  rintro e w4 ⟨rfl, k4⟩
  have hG4 := hG3.trans k4
  have m4 := m3.grew k4
  have hb94 := hb93.grew k4
  have hb4 := hb3.grew k4
  have hlt4 := hb4.lt
  clear hG3 m3 hb93 hb3 HB k4
  generalize setC X (arnd at_ 4) to_ = Y at *
  have hb11 := hb4.alloc (.cells (cells5 zc (.slice none 0 0)).toArray 27)
  go_upto_region 4 with (first | (refine st5 27 infoR (.tmp 12) (.tmp 26) w4.heap.size Y zc (.slice A2 m2 c2) (.slice none 0 0) 27 rfl rfl rfl rfl rfl (Box.new w4 27 (cells5 zc (.slice none 0 0)).toArray) ?_; intro w5 hb5 hk5; have hb11b := hb11.keep hk5 (by omega)) | (refine ld5 27 infoR Tryd.underlying27 rfl (.tmp 11) w2.heap.size X (.slice A2 m2 c2) 27 rfl rfl rfl hb11b ?_) | (refine st5 27 infoR (.tmp 13) (.tmp 27) w5.heap.size X zc (.slice A2 m2 c2) (.slice none 0 0) 27 rfl rfl rfl rfl rfl (Box.new w5 27 (cells5 zc (.slice none 0 0)).toArray) ?_; intro w6 hb6 hk6))
  have hG5 : Grew w w5 := Keeps.then_ (hG4.alloc _) hk5 (fun i hi e => by have := hG4.size; omega)
  have hG6 : Grew w w6 := Keeps.then_ (hG5.alloc _) hk6 (fun i hi e => by have := hG5.size; omega)
  have m5 := (m4.alloc (.cells (cells5 zc (.slice none 0 0)).toArray 27)).keep hk5 (fun i e e2 => by have := HO2.out i e; omega)
  have hs5 := hk5.size
  rw [World.size_alloc] at hs5
  have m6 := (m5.alloc (.cells (cells5 zc (.slice none 0 0)).toArray 27)).keep hk6 (fun i e e2 => by have := HO2.out i e; omega)
  have hs6 := hk6.size
  rw [World.size_alloc] at hs6
  have hb95 := (hb94.alloc (.cells (cells5 zc (.slice none 0 0)).toArray 27)).keep hk5 (by omega)
  have hb96 := (hb95.alloc (.cells (cells5 zc (.slice none 0 0)).toArray 27)).keep hk6 (by omega)
  have hb116 := (hb11b.alloc (.cells (cells5 zc (.slice none 0 0)).toArray 27)).keep hk6 (by omega)
  have hb126 := (hb5.alloc (.cells (cells5 zc (.slice none 0 0)).toArray 27)).keep hk6 (by omega)
  clear hk5 hk6 hb94 hb95 hb11 hb11b hb4 hb5 m4 m5 hG4 hG5
  obtain ⟨x0, x1, x2, x3⟩ := hb96.four
  have x4 := hb116.five.2.2.2.2
  have hS : ∀ w', Keeps (fun i => i = w5.heap.size) w6 w' → w'.cell? ⟨w2.heap.size, 4, none⟩ = some (.slice A2 m2 c2) ∧ w'.cell? ⟨w.heap.size, 0, none⟩ = some (.int .i64 cl.1) ∧ w'.cell? ⟨w.heap.size, 1, none⟩ = some (.int .i64 cl.2.1) ∧ w'.cell? ⟨w.heap.size, 2, none⟩ = some (.int .i64 cl.2.2.1) ∧ w'.cell? ⟨w.heap.size, 3, none⟩ = some (.int .i64 cl.2.2.2) := fun w' g => by
    have b1 := hb96.keep g (by omega)
    have b2 := hb116.keep g (by omega)
    exact ⟨b2.five.2.2.2.2, b1.four.1, b1.four.2.1, b1.four.2.2.1, b1.four.2.2.2⟩
  have HS := Lib.hid hS
  have hS5 : ∀ w', Grew w6 w' → w'.cell? ⟨w5.heap.size, 4, none⟩ = some (.slice A2 m2 c2) ∧ w'.frozen? ⟨w5.heap.size, 4, none⟩ = false := fun w' g => ⟨(hb6.grew g).five.2.2.2.2, (hb6.grew g).frozen 4⟩
  have HS5 := Lib.hid hS5
  have HPC := Lib.hid (fun (w8 : World) (A : Option Addr) (m cap : Nat) (ds : List Clm) (g8 : Grew w6 w8) (hM : MineC w8 w6.heap.size (.slice A m cap) ds) => put_claims hb6 g8 hM)
  have hgA : Grew w6 (w6.alloc (.cells #[] 24)).drew := Keeps.drew ((Grew.refl w6).alloc _)
  have hgB : Grew w6 ((w6.alloc (.cells #[] 24)).alloc (.cells (cells4 cl).toArray 24)).drew := Keeps.drew (((Grew.refl w6).alloc _).alloc _)
  have hgC : Grew w6 ((w6.alloc (.cells (cells4 cl).toArray 24)).alloc (.cells #[] 24)).drew := Keeps.drew (((Grew.refl w6).alloc _).alloc _)
  have heA : MineC (w6.alloc (.cells #[] 24)).drew w6.heap.size (.slice (some ⟨w6.heap.size, 0, none⟩) 0 0) [] := MineC.empty (Box.drew (Box.new w6 _ _)) (Nat.le_refl _)
  have heB : MineC ((w6.alloc (.cells #[] 24)).alloc (.cells (cells4 cl).toArray 24)).drew w6.heap.size (.slice (some ⟨w6.heap.size, 0, none⟩) 0 0) [] := MineC.empty (Box.drew ((Box.new w6 _ _).alloc _)) (Nat.le_refl _)
  have heC : MineC ((w6.alloc (.cells (cells4 cl).toArray 24)).alloc (.cells #[] 24)).drew w6.heap.size (.slice (some ⟨w6.heap.size + 1, 0, none⟩) 0 0) [] := MineC.empty (by have := Box.new (w6.alloc (.cells (cells4 cl).toArray 24)) 24 #[]; rw [World.size_alloc] at this; exact Box.drew this) (by omega)
  have hbB : Box ((w6.alloc (.cells #[] 24)).alloc (.cells (cells4 cl).toArray 24)).drew (w6.heap.size + 1) 24 (cells4 cl).toArray := by have := Box.new (w6.alloc (.cells #[] 24)) 24 (cells4 cl).toArray; rw [World.size_alloc] at this; exact Box.drew this
  have hbC : Box ((w6.alloc (.cells (cells4 cl).toArray 24)).alloc (.cells #[] 24)).drew w6.heap.size 24 (cells4 cl).toArray := Box.drew ((Box.new w6 _ _).alloc _)
  have HgA := Lib.hid hgA
  have HgB := Lib.hid hgB
  have HgC := Lib.hid hgC
  have HeA := Lib.hid heA
  have HeB := Lib.hid heB
  have HeC := Lib.hid heC
  have HbB := Lib.hid hbB
  have HbC := Lib.hid hbC
  have HR := Lib.hid m6.rd.rdG
  have hlen : ([] : List Clm).length + cs.length ≤ 1099511627776 := by simp; omega
  have hlen2 : ([] ++ cs).length + [cl].length ≤ 1099511627776 := by simp; omega
  have HM6 := Lib.hid m6
  have HB96 := Lib.hid hb96
  have HB116 := Lib.hid hb116
  have HB126 := Lib.hid hb126
  have HB6 := Lib.hid hb6
  have HG6 := Lib.hid hG6
  have HQ2 := Lib.hid q2
  clear hgA hgB hgC heA heB heC hbB hbC hS hS5 m6 hb96 hb116 hb126 hb6 hG6 q2
  dsimp only [Act.put]
  go_cut [13] (fun s13 wx => ∃ A m cap, s13 = .pointer (some ⟨w5.heap.size, 0, none⟩) ∧ Box wx w5.heap.size 27 (cells5 X (.slice A m cap)).toArray ∧ MineC wx w6.heap.size (.slice A m cap) ([] ++ cs ++ [cl]) ∧ Keeps (fun i => i = w5.heap.size) w6 wx)
  case first =>
    go_region_held3 (fun w' => w'.cell? ⟨w2.heap.size, 4, none⟩ = some (.slice A2 m2 c2) ∧ w'.cell? ⟨w.heap.size, 0, none⟩ = some (.int .i64 cl.1) ∧ w'.cell? ⟨w.heap.size, 1, none⟩ = some (.int .i64 cl.2.1) ∧ w'.cell? ⟨w.heap.size, 2, none⟩ = some (.int .i64 cl.2.2.1) ∧ w'.cell? ⟨w.heap.size, 3, none⟩ = some (.int .i64 cl.2.2.2))
      (first | assumption | (refine HS.out _ ?_; repeat (first | assumption | exact Grew.keeps (by assumption) | exact Keeps.refl _ _ | refine Keeps.drew ?_ | refine Keeps.alloc ?_ _)))
      (first | (refine step_anyG rfl (.tmp 28) (.tmp 30) rfl rfl HeA.out rfl (HR.out.grew (Nat.le_refl _) HgA.out) hlen HgA.out.size ?_; intro A7 m7 cap7 w7 hm7 hM7 hk7 hr7; have g7 : Grew w6 w7 := Grew.appC HgA.out HeA.out hk7; have cW7 := HS.out w7 g7.keeps; have s7 := g7.size; clear hm7 hr7 hk7) | (refine step_anyG rfl (.tmp 28) (.tmp 30) rfl rfl HeB.out rfl (HR.out.grew (Nat.le_refl _) HgB.out) hlen HgB.out.size ?_; intro A7 m7 cap7 w7 hm7 hM7 hk7 hr7; have g7 : Grew w6 w7 := Grew.appC HgB.out HeB.out hk7; have cW7 := HS.out w7 g7.keeps; have s7 := g7.size; have hb7 := HbB.out.keep hk7 (own_ne (by omega)); clear hm7 hr7 hk7) | (refine step_anyG rfl (.tmp 28) (.tmp 30) rfl rfl HeC.out rfl (HR.out.grew (Nat.le_refl _) HgC.out) hlen HgC.out.size ?_; intro A7 m7 cap7 w7 hm7 hM7 hk7 hr7; have g7 : Grew w6 w7 := Grew.appC HgC.out HeC.out hk7; have cW7 := HS.out w7 g7.keeps; have s7 := g7.size; have hb7 := HbC.out.keep hk7 (own_ne (by omega)); clear hm7 hr7 hk7) | (refine step_anyG rfl (.tmp 31) (.tmp 33) rfl rfl (hM7.alloc _) rfl (RdG.one (Box.new w7 24 (cells4 cl).toArray)) hlen2 (by simp; omega) ?_; intro A8 m8 cap8 w8 hm8 hM8 hk8 hr8; have g8 : Grew w6 w8 := Grew.appC (g7.alloc _) (hM7.alloc _) hk8; have cW8 := HS.out w8 g8.keeps; have cX8 := (HS5.out w8 g8).1; have cY8 := (HS5.out w8 g8).2; have fin8 := HPC.out w8 A8 m8 cap8 _ g8 hM8; have cZ8 := HS.out _ fin8.2.2; clear hm8 hr8 hk8) | (refine step_anyG rfl (.tmp 31) (.tmp 33) rfl rfl hM7 rfl (RdG.one hb7) hlen2 (by omega) ?_; intro A8 m8 cap8 w8 hm8 hM8 hk8 hr8; have g8 : Grew w6 w8 := Grew.appC g7 hM7 hk8; have cW8 := HS.out w8 g8.keeps; have cX8 := (HS5.out w8 g8).1; have cY8 := (HS5.out w8 g8).2; have fin8 := HPC.out w8 A8 m8 cap8 _ g8 hM8; have cZ8 := HS.out _ fin8.2.2; clear hm8 hr8 hk8))
    all_goals (go_wp2_with fail; go_meet; exact ⟨_, _, _, rfl, fin8⟩)
  case rest =>
    obtain ⟨A, m, cap, rfl, r1, r2, r3⟩ := hcut
    have b11 := HB116.out.keep r3 (by omega)
    have b12 := HB126.out.keep r3 (by omega)
    have mC := HM6.out.keep r3 (fun i e e2 => by have := HO2.out i e; omega)
    have hGc : Grew w wc := Keeps.then_ HG6.out r3 (fun i hi e => by omega)
    clear HB116 HB126 HB96 HB6 HM6 HG6 HgA HgB HgC HeA HeB HeC HbB HbC HR HS HS5 HPC r3 x0 x1 x2 x3 x4
    go_upto_region 6 with (first | (refine ld5v 27 infoR Tryd.underlying27 rfl (.tmp 11) w2.heap.size X (.slice A2 m2 c2) 27 rfl rfl rfl b11 ?_) | (refine ld5v 27 infoR Tryd.underlying27 rfl (.tmp 12) w4.heap.size Y (.slice A2 m2 c2) 27 rfl rfl rfl b12 ?_) | (refine ld5v 27 infoR Tryd.underlying27 rfl (.tmp 13) w5.heap.size X (.slice A m cap) 27 rfl rfl rfl r1 ?_))
    obtain ⟨W, hW⟩ : ∃ W, W = wc.alloc (.cells #[.int .i64 X.1, .int .i64 X.2.1, .int .i64 X.2.2.1, .int .i64 X.2.2.2, .slice A2 m2 c2, .int .i64 Y.1, .int .i64 Y.2.1, .int .i64 Y.2.2.1, .int .i64 Y.2.2.2, .slice A2 m2 c2, .int .i64 X.1, .int .i64 X.2.1, .int .i64 X.2.2.1, .int .i64 X.2.2.2, .slice A m cap] 27) := ⟨_, rfl⟩
    rw [← hW]
    have hbW : Box W wc.heap.size 27 #[.int .i64 X.1, .int .i64 X.2.1, .int .i64 X.2.2.1, .int .i64 X.2.2.2, .slice A2 m2 c2, .int .i64 Y.1, .int .i64 Y.2.1, .int .i64 Y.2.2.1, .int .i64 Y.2.2.2, .slice A2 m2 c2, .int .i64 X.1, .int .i64 X.2.1, .int .i64 X.2.2.1, .int .i64 X.2.2.2, .slice A m cap] := by rw [hW]; exact Box.new wc _ _
    have gcW : Grew wc W := by rw [hW]; exact (Grew.refl wc).alloc _
    have hGW := hGc.trans gcW
    have r2W := r2.grew gcW
    have mW := mC.grew gcW
    clear hW r1 r2 mC b11 b12 hGc
    have hall : ∀ w', Grew W w' → ∀ j, j < 3 → ∃ x A n c ds, w'.rangeAt wc.heap.size (j * 5) (cells5 x (.slice A n c)) ∧ RdC w' w'.heap.size (.slice A n c) ds ∧ ds.length ≤ 10 := by
      intro w' g j hj
      have hb' := hbW.grew g
      have : j = 0 ∨ j = 1 ∨ j = 2 := by omega
      rcases this with rfl | rfl | rfl
      · refine ⟨X, A2, m2, c2, cs, fun k u hu => ?_, (mW.grew g).rd, by omega⟩
        rw [hb'.cell]
        have hk : k < 5 := (List.getElem?_eq_some_iff.1 hu).1
        have : k = 0 ∨ k = 1 ∨ k = 2 ∨ k = 3 ∨ k = 4 := by omega
        rcases this with rfl | rfl | rfl | rfl | rfl <;> exact hu
      · refine ⟨Y, A2, m2, c2, cs, fun k u hu => ?_, (mW.grew g).rd, by omega⟩
        rw [hb'.cell]
        have hk : k < 5 := (List.getElem?_eq_some_iff.1 hu).1
        have : k = 0 ∨ k = 1 ∨ k = 2 ∨ k = 3 ∨ k = 4 := by omega
        rcases this with rfl | rfl | rfl | rfl | rfl <;> exact hu
      · refine ⟨X, A, m, cap, _, fun k u hu => ?_, (r2W.grew g).rd, by simp; omega⟩
        rw [hb'.cell]
        have hk : k < 5 := (List.getElem?_eq_some_iff.1 hu).1
        have : k = 0 ∨ k = 1 ∨ k = 2 ∨ k = 3 ∨ k = 4 := by omega
        rcases this with rfl | rfl | rfl | rfl | rfl <;> exact hu
    have HALL := Lib.hid hall
    have HGW := Lib.hid hGW
    clear hall hbW gcW r2W mW hGW
    go_wp2_with fail
    go_loopw [15] (fun i wr => ∃ j : Nat, j ≤ 3 ∧ i = .int .i64 j ∧ Grew W wr) (fun i _ => 3 - (intOf i).toNat)
    case atStart => exact ⟨0, by omega, rfl, Grew.refl _⟩
    case round =>
      obtain ⟨j, hj, rfl, hGr⟩ := hrel
      by_cases hlt : j < 3
      · obtain ⟨x, A, n', c', ds, hr, hd, hdl⟩ := HALL.out wr hGr j hlt
        have HR0 := Lib.hid hr
        have HR1 := Lib.hid (fun (w' : World) (g : Grew wr w') => range_grew hr g)
        clear hr
        have hOf := of_any x A n' c' wr
        unfold vbl at hOf
        have HOf := Lib.hid hOf
        clear hOf
        go_wp2_with (first | (refine ld5o 27 infoR Tryd.underlying27 rfl (.tmp 47) wc.heap.size (j * 5) x (.slice A n' c') rfl rfl rfl HR0.out ?_))
        refine HOf.out.mono ?_
        rintro e wa ⟨rfl, ga⟩
        have gWa := hGr.trans ga
        have hGa := HGW.out.trans gWa
        have hEn := bencode_any x _ ds wa ((hd.grew (Nat.le_refl _) ga).more ga.size) (by omega) (HT.out.on hGa) (HP.out.on hGa)
        unfold vbl at hEn
        have HEn := Lib.hid hEn
        have HD := Lib.hid hd
        clear hEn HOf HR0 hd
        go_wp2_with fail
        refine HEn.out.mono ?_
        rintro e wb ⟨vb1, rfl, p1, p2⟩
        obtain ⟨Ab, nb, cb, rfl, -⟩ := p1.slice
        have gb := ga.trans p2
        have gWb := gWa.trans p2
        have hr2 : wb.rangeAt wc.heap.size (j * 5) (cells5 x (.slice A n' c')) := HR1.out wb gb
        have hEn := rbencode_any x _ ds wb ((HD.out.grew (Nat.le_refl _) gb).more gb.size) (by omega)
        unfold vbl at hEn
        have HEn2 := Lib.hid hEn
        have HR2 := Lib.hid hr2
        clear hEn HEn hr2 HR1
        go_wp2_with (first | (refine ld5o 27 infoR Tryd.underlying27 rfl (.tmp 56) wc.heap.size (j * 5) x (.slice A n' c') rfl rfl rfl HR2.out ?_))
        refine HEn2.out.mono ?_
        rintro e wd ⟨vb2, rfl, s1, s2⟩
        obtain ⟨Ad, nd, cd, rfl, -⟩ := s1.slice
        have gWd := gWb.trans s2
        have hbl := bEncB_len x ds
        have HSb := Lib.hid (sameBytes_any _ _ (bEncB x ds) (bEncB x ds) wd (p1.grew s2).rd s1.rd (by omega) (by omega))
        rw [show decide (bEncB x ds = bEncB x ds) = true from by simp] at HSb
        have tE : (bEncE x ds != bEncE x ds) = false := by simp
        generalize bEncE x ds = ee at *
        clear HEn2 HR2 p1 s1
        go_wp2_with fail
        refine HSb.out.mono ?_
        rintro e wf ⟨rfl, nf, hf⟩
        have gWf : Grew W wf := by rw [hf]; exact Keeps.drewN gWd nf
        clear hf HSb
        go_wp2_with fail
        go_roundw
        case rel => exact ⟨j + 1, by omega, by go_num, gWf⟩
        case measure => simp [intOf]; omega
      · have hGe := HGW.out.trans hGr
        have HL := Lib.hid (lives18_any wr (HT.out.on hGe) (HP.out.on hGe))
        go_wp2_with fail
        refine HL.out.mono ?_
        rintro e wz ⟨rfl, gz⟩
        go_wp2_with fail
        go_ret
        exact ⟨rfl, hGe.trans gz⟩
end Go.Proofs.YtjiiiimhegkklaaDoor
