/- One number, and the claims, of a block in a box of its own, stored. The law BlockSound, walked: it returns true and leaves what was there. -/
import Derived.Test.YtgkmfblmkfclbaaGreatDoorBlockSoundP46
import Derived.Test.YtgkmfblmkfclbaaGreatDoorBlockSoundP18
import Derived.Test.YtgkmfblmkfclbaaGreatDoorBlockSoundP44
import Derived.Test.YtgkmfblmkfclbaaGreatDoorBlockSoundP50
import Derived.Deep.DeepCutAuto
namespace Go.Proofs.YtgkmfblmkfclbaaGreatDoor
open Go.RowKit Pl

theorem get5_someS (d : Clm) (v : Value) (k : Nat) (hk : k < 4) : ∃ n : Int, (cells5 d v).toArray[k]? = some (.int .i64 n) := by
  have : k = 0 ∨ k = 1 ∨ k = 2 ∨ k = 3 := by omega
  rcases this with rfl | rfl | rfl | rfl <;> exact ⟨_, rfl⟩
theorem Box.put1bS {w : World} {g : Nat} {t : TypeId} {d : Clm} {v : Value} (h : Box w g t (cells5 d v).toArray) (k : Nat) (hk : k < 4) (n : Int) : Box (w.setCell ⟨g, k, none⟩ (.int .i64 n)) g t (cells5 (setC d k n) v).toArray := by
  have h1 := h.set_ k (.int .i64 n)
  have : k = 0 ∨ k = 1 ∨ k = 2 ∨ k = 3 := by omega
  rcases this with rfl | rfl | rfl | rfl <;> exact h1
/- one number of a block stored -/
theorem st1bS {ops : Array Oper} {rest : List Oper} {o : Oper} {a : Act} {w : World} {Q : Exit → Act → World → Prop} (x y : Operand) (g k : Nat) (hk : k < 4) (n : Int) (d : Clm) (v : Value) (t : TypeId) (hgd : o.guard = none) (ho : o.op = .store 3 x y)
    (hx : a.eval x = .pointer (some ⟨g, k, none⟩)) (hy : a.eval y = .int .i64 n) (hb : Box w g t (cells5 d v).toArray)
    (h : ∀ w', Box w' g t (cells5 (setC d k n) v).toArray → Keeps (fun i => i = g) w w' → wpList Tryz.prog ops Q rest (a.put o.dst undef) w') : wpList Tryz.prog ops Q (o :: rest) a w := by
  obtain ⟨u, hu⟩ := get5_someS d v k hk
  have hc := (hb.cell k).trans hu
  have hf := hb.frozen k
  have hk' : Keeps (fun i => i = g) w (w.setCell ⟨g, k, none⟩ (.int .i64 n)) := (Keeps.refl (fun i => i = g) w).setCell (p := ⟨g, k, none⟩) (.inl rfl) _
  refine wpList_plain hgd fun K hK => ?_
  unfold Oper.wp execOp
  simp only [ho, hx, hy]
  go_simp
  exact hK _ _ (h _ (hb.put1bS k hk n) hk')
/- the claims of a block stored into its box -/
theorem stv5S {ops : Array Oper} {rest : List Oper} {o : Oper} {a : Act} {w : World} {Q : Exit → Act → World → Prop} (x y : Operand) (g : Nat) (A : Option Addr) (n c : Nat) (d : Clm) (v : Value) (t : TypeId) (hgd : o.guard = none) (ho : o.op = .store 29 x y)
    (hx : a.eval x = .pointer (some ⟨g, 4, none⟩)) (hy : a.eval y = .slice A n c) (hb : Box w g t (cells5 d v).toArray)
    (h : ∀ w', Box w' g t (cells5 d (.slice A n c)).toArray → Keeps (fun i => i = g) w w' → wpList Tryz.prog ops Q rest (a.put o.dst undef) w') : wpList Tryz.prog ops Q (o :: rest) a w := by
  have hc : w.cell? ⟨g, 4, none⟩ = some v := hb.cell 4
  have hf := hb.frozen 4
  have hk' : Keeps (fun i => i = g) w (w.setCell ⟨g, 4, none⟩ (.slice A n c)) := (Keeps.refl (fun i => i = g) w).setCell (p := ⟨g, 4, none⟩) (.inl rfl) _
  have hb' : Box (w.setCell ⟨g, 4, none⟩ (.slice A n c)) g t (cells5 d (.slice A n c)).toArray := hb.set_ 4 (.slice A n c)
  refine wpList_plain hgd fun K hK => ?_
  unfold Oper.wp execOp
  simp only [ho, hx, hy]
  go_simp
  exact hK _ _ (h _ hb' hk')
end Go.Proofs.YtgkmfblmkfclbaaGreatDoor
namespace Go.Proofs.YtgkmfblmkfclbaaGreatDoor
open Go.RowKit Pl

/- the block that the law makes is valid -/
theorem snd_ok {k p g : Int} (hk : k = 1 ∨ k = 2 ∨ k = 3 ∨ k = 4) (hp1 : 1 ≤ p) (hp2 : p ≤ 1048576) (hp3 : k ≠ 4 → p ≤ 1000) (hg : 0 ≤ g ∧ g ≤ 4398046511104) : okB (3, k, p, g) := by
  unfold okB
  rcases hk with rfl | rfl | rfl | rfl <;> simp [pLo, pHi] <;> omega
def SndPar (a : Nat) (w5 wx : World) : Prop :=
  ∃ P : Int, 1 ≤ P ∧ P ≤ 1048576 ∧ (1 + (a : Int) ≠ 4 → P ≤ 1000) ∧ Box wx w5.heap.size 39 (cells5 (3, 1 + (a : Int), P, 0) (.slice none 0 0)).toArray ∧ Grew w5 wx
set_option maxHeartbeats 12800000 in
set_option maxRecDepth 100000 in
theorem blockSound_walk (v0 v1 v2 : Value) (l m k : List Int) (n0 p0 : Int) (w : World) (h0 : Rd w w.heap.size v0 (l.map vi)) (i0 : ∀ x ∈ l, I64 x) (l0 : l.length ≤ 1000000000000000) (h1 : Rd w w.heap.size v1 (m.map vi)) (i1 : ∀ x ∈ m, I64 x) (l1 : m.length ≤ 1000000000000000) (h2 : Rd w w.heap.size v2 (k.map vi)) (i2 : ∀ x ∈ k, I64 x) (l2 : k.length ≤ 1000000000000000) (i3 : I64 n0) (i4 : I64 p0) (ht : Tab w w.heap.size) (hp : PTab w w.heap.size) :
    Calls Tryz.prog 3 #[v0, v1, v2, .int .i64 n0, .int .i64 p0] w fun e w' => e = .returned (.bool true) ∧ Grew w w' := by
  have HD := Lib.hid (decl_any v0 l w h0 i0 l0)
  have hgd := declK_good (pickV l 0 10) (pickV l 1 5) (pickV l 2 7) (pickV l 5 17) (pickV l 6 4) (pickV l 7 14) (pickV l 8 40) (pickV_lt _ _ _ (by omega)) (pickV_lt _ _ _ (by omega)) (pickV_lt _ _ _ (by omega)) (pickV_lt _ _ _ (by omega)) (pickV_lt _ _ _ (by omega)) (pickV_lt _ _ _ (by omega)) (pickV_lt _ _ _ (by omega))
  have htn := declK_tiny (pickV l 0 10) (pickV l 1 5) (pickV l 2 7) (pickV l 5 17) (pickV l 6 4) (pickV l 7 14) (pickV l 8 40) (pickV_lt _ _ _ (by omega)) (pickV_lt _ _ _ (by omega)) (pickV_lt _ _ _ (by omega)) (pickV_lt _ _ _ (by omega)) (pickV_lt _ _ _ (by omega)) (pickV_lt _ _ _ (by omega))
  have hnm := nameOf_low (pickV l 3 2)
  generalize declK (pickV l 0 10) (pickV l 1 5) (pickV l 2 7) (pickV l 5 17) (pickV l 6 4) (pickV l 7 14) (pickV l 8 40) = x at *
  generalize nameOf (pickV l 3 2) = nm at *
  have hN14 : 1 ≤ spanD x ∧ spanD x ≤ 14 := by
    have := htn.span
    have := hgd.last
    unfold spanD; omega
  have x7a := hgd.first
  have x7b : x 7 ≤ 1000 := by have := htn.first2; omega
  have HGd := Lib.hid hgd
  have HTn := Lib.hid htn
  have HNm := Lib.hid hnm
  have H1 := Lib.hid (fun w' (g : Grew w w') => (h1.grew (Nat.le_refl _) g).more g.size)
  have H2 := Lib.hid (fun w' (g : Grew w w') => (h2.grew (Nat.le_refl _) g).more g.size)
  have I1 := Lib.hid i1
  have I2 := Lib.hid i2
  have HT := Lib.hid ht
  have HP := Lib.hid hp
  have HA1 := Lib.hid (fun w' => arnd' n0 4 w' i3 (by omega) (by omega))
  have HA2 := Lib.hid (fun w' => arnd' p0 9 w' i4 (by omega) (by omega))
  have ha := arnd_lt n0 (4 : Int).toNat (by decide)
  have hb := arnd_lt p0 (9 : Int).toNat (by decide)
  generalize arnd n0 (4 : Int).toNat = a at *
  generalize arnd p0 (9 : Int).toNat = b at *
  have ha4 : a < 4 := ha
  have hb9 : b < 9 := hb
  clear h0 i0 h1 i1 h2 i2 ht hp hgd htn hnm ha hb i3 i4
  go_enter Tryz.func3, Tryz.ntmps3
  go_wp2_with fail
  refine HD.out.mono ?_
  rintro e w1 ⟨vl, ls, rfl, hL, hls, k1⟩
  obtain ⟨A, c, rfl⟩ := hL.slc
  have HL := Lib.hid (fun w' (g : Grew w1 w') => hL.grew g)
  have HLs := Lib.hid (lab4_good hls)
  have HK1 := Lib.hid k1
  generalize ls.length = n at *
  rw [vdecl_cells]
  clear hL hls HD k1
  go_upto_region 2 with (refine stN 27 (.tmp 11) (.tmp 28) w1.heap.size (cells12 nm (.slice A n c) x) (cells12 ⟨#[]⟩ (.slice none 0 0) (fun _ => 0)) 27 info12 rfl (by intro v hv; simp [cells12] at hv; rcases hv with rfl | rfl | rfl | rfl | rfl | rfl | rfl | rfl | rfl | rfl | rfl | rfl <;> rfl) rfl rfl rfl rfl (Box.new w1 27 (cells12 ⟨#[]⟩ (.slice none 0 0) (fun _ => 0)).toArray) ?_; intro w2 bx2 k2 d2)
  have g12 : Grew w1 w2 := Keeps.then_ ((Grew.refl w1).alloc _) k2 (fun i hi e => by omega)
  have G2 := HK1.out.trans g12
  clear k2 d2
  have HS := Lib.hid (some_any nm A n c x v1 v2 m k false w2 HTn.out (H1.out w2 G2) I1.out l1 (H2.out w2 G2) I2.out l2)
  rw [vdecl_cells] at HS
  obtain ⟨A1, p1, q1, rfl, -, -⟩ := (H1.out w2 G2).form
  obtain ⟨A2, p2, q2, rfl, -, -⟩ := (H2.out w2 G2).form
  generalize hgg : w1.heap.size = gd at *
  clear hgg
  go_wp2_with (refine ldN 27 Tryz.underlying27 rfl (.tmp 11) gd (cells12 nm (.slice A n c) x) 27 info12 rfl rfl rfl bx2 ?_)
  refine HS.out.mono ?_
  rintro e w3 ⟨v3, cs, rfl, m3, hF, hl5, k3⟩
  have bx3 := bx2.grew k3
  have g13 := g12.trans k3
  have G3 := G2.trans k3
  have HF := Lib.hid hF
  clear HS bx2 g12 k3 hF G2
  obtain ⟨A3, p3, q3, rfl, hp3, -⟩ := m3.slice
  have HP3 := Lib.hid hp3
  clear hp3
  have HN1 := Lib.hid (new_any nm A n c ls x (.slice A3 p3 q3) cs w3 HNm.out (HL.out w3 g13) HLs.out HGd.out m3.rd HF.out.1 (by omega))
  rw [vdecl_cells] at HN1
  go_wp2_with (refine ldN 27 Tryz.underlying27 rfl (.tmp 11) gd (cells12 nm (.slice A n c) x) 27 info12 rfl rfl rfl bx3 ?_)
  refine HN1.out.mono ?_
  intro e w4 hN4
  rcases hN4 with ⟨hc, rfl, k4⟩ | ⟨hc, B, p, C, q, rfl, m41, m42, k4⟩
  · have G4 := G3.trans k4
    clear hc HN1 k4 bx3 g13 G3 m3
    unfold venv cells3
    go_upto_region 4 with fail
    have ga := (Grew.refl w4).alloc (.cells #[.int .i64 0, .slice none 0 0, .slice none 0 0] 32)
    have G5 := G4.trans ga
    generalize w4.alloc (.cells #[.int .i64 0, .slice none 0 0, .slice none 0 0] 32) = w5 at *
    have HLw := Lib.hid (lives18_any w5 (HT.out.on G5) (HP.out.on G5))
    have HG5 := Lib.hid G5
    clear ga G4 G5
    go_wp2_with fail
    refine HLw.out.mono ?_
    rintro e wb ⟨rfl, kb⟩
    have HGb := Lib.hid (HG5.out.trans kb)
    clear kb
    go_wp2_with fail
    go_ret
    exact ⟨rfl, HGb.out⟩
  · have HC := Lib.hid hc
    have G4 := G3.trans k4
    have g14 := g13.trans k4
    have bx4 := bx3.grew k4
    have m4 := m3.grew k4
    clear hc HN1 k4 bx3 g13 G3 m3
    generalize hNN : spanD x = N at *
    have HNN := Lib.hid hNN
    clear hNN
    unfold venv cells3
    go_upto_region 4 with fail
    have ga := (Grew.refl w4).alloc (.cells #[.int .i64 (x 7), .slice B N p, .slice C N q] 32)
    have e5 : Box (w4.alloc (.cells #[.int .i64 (x 7), .slice B N p, .slice C N q] 32)) w4.heap.size 32 (cells3 (x 7) (.slice B N p) (.slice C N q)).toArray := Box.new _ _ _
    have G5 := G4.trans ga
    have g15 := g14.trans ga
    have bx5 := bx4.grew ga
    have m5 := m4.grew ga
    have r1 := m41.grew ga
    have r2 := m42.grew ga
    generalize w4.alloc (.cells #[.int .i64 (x 7), .slice B N p, .slice C N q] 32) = w5 at *
    generalize hgg : w4.heap.size = g13 at *
    clear ga G4 g14 bx4 m4 m41 m42 hgg
    have HD5 := Lib.hid (fun w' (g : Grew w5 w') => bx5.grew g)
    have HE5 := Lib.hid (fun w' (g : Grew w5 w') => e5.grew g)
    have HR1 := Lib.hid (fun w' (g : Grew w5 w') => (r1.grew g).rd)
    have HR2 := Lib.hid (fun w' (g : Grew w5 w') => (r2.grew g).rd)
    have HM5 := Lib.hid (fun w' (g : Grew w5 w') => (m5.grew g).rd)
    have HL5 := Lib.hid (fun w' (g : Grew w5 w') => HL.out w' (g15.trans g))
    have HG5 := Lib.hid (fun w' (g : Grew w5 w') => G5.trans g)
    have HT5 := Lib.hid (fun w' (g : Grew w5 w') => HT.out.on (G5.trans g))
    have HP5 := Lib.hid (fun w' (g : Grew w5 w') => HP.out.on (G5.trans g))
    clear G5 g15 bx5 m5 r1 r2 e5 HT HP HL H1 H2 HK1
    go_wp2_with fail
    refine (HA1.out _).mono ?_
    rintro e w' ⟨rfl, hw'⟩
    rw [hw']; clear hw' w'
    go_wp2_with fail
    refine (HA2.out _).mono ?_
    rintro e w' ⟨rfl, hw'⟩
    rw [hw']; clear hw' w'
    go_upto_region 7 with (refine st5 39 infoB (.tmp 15) (.tmp 48) w5.heap.size (3, 1 + (a : Int), 1 + (b : Int), 0) zc (.slice none 0 0) (.slice none 0 0) 39 rfl rfl rfl rfl rfl (Box.new w5 39 (cells5 zc (.slice none 0 0)).toArray) ?_; intro w6 bx6 k6)
    have g56 : Grew w5 w6 := Keeps.then_ ((Grew.refl w5).alloc _) k6 (fun i hi e => by omega)
    obtain ⟨y0, y1, y2, y3, y4⟩ := bx6.five
    have z9 : w6.cell? ⟨gd, 9, none⟩ = some (.int .i64 (x 7)) := (HD5.out w6 g56).cell 9
    have HB6 := Lib.hid bx6
    have HG6 := Lib.hid g56
    clear k6 bx6 g56 HA1 HA2
    go_upto_if 51 with fail
    go_cut [] (fun wx => SndPar a w5 wx)
    case first =>
      by_cases h3 : a = 3
      · have t3 : ((1 + (a : Int)) == 4) = true := by rw [beq_iff_eq]; omega
        have b6 := HB6.out
        clear h3
        go_wp2_with (refine st1bS (.tmp 57) (.tmp 56) w5.heap.size 2 (by decide) (1 + (b : Int) + x 7) (3, 1 + (a : Int), 1 + (b : Int), 0) (.slice none 0 0) 39 rfl rfl rfl rfl b6 ?_; intro w7 bx7 k7)
        go_meet
        exact ⟨1 + (b : Int) + x 7, by omega, by omega, (fun h => by have := beq_iff_eq.1 t3; omega), bx7, Keeps.then_ HG6.out k7 (fun i hi e => by omega)⟩
      · have t3 : ((1 + (a : Int)) == 4) = false := by rw [beq_eq_false_iff_ne]; omega
        clear h3
        go_wp2_with fail
        go_meet
        exact ⟨1 + (b : Int), by omega, by omega, (fun _ => by omega), HB6.out, HG6.out⟩
    case rest =>
      obtain ⟨P, hP1, hP2, hP3, bx7, g7⟩ := hcut
      have hk4 : 1 + (a : Int) = 1 ∨ 1 + (a : Int) = 2 ∨ 1 + (a : Int) = 3 ∨ 1 + (a : Int) = 4 := by omega
      generalize 1 + (a : Int) = kd at *
      have hcS : clashB x (spanD x) cs = false := by rw [HNN.out]; exact HC.out
      have HCS := Lib.hid hcS
      have hKi := kinds_any nm A n c ls x (.slice A3 p3 q3) cs kd P wc HNm.out (HL5.out wc g7) HLs.out HGd.out (HM5.out wc g7) HF.out.1 (by rw [HNN.out]; omega) hcS hk4 hP1 hP2 hP3
      rw [vdecl_cells, HNN.out] at hKi
      have HKi := Lib.hid hKi
      have HK4 := Lib.hid hk4
      have HP3' := Lib.hid hP3
      have hd7 := HD5.out wc g7
      obtain ⟨y0, y1, y2, y3, y4⟩ := bx7.five
      have hlt7 := bx7.lt
      clear hk4 hcS hKi hP3
      go_wp2_with (refine ldN 27 Tryz.underlying27 rfl (.tmp 11) gd (cells12 nm (.slice A n c) x) 27 info12 rfl rfl rfl hd7 ?_)
      refine HKi.out.mono ?_
      rintro e wd ⟨A6, m6, c6, ds, gv, rfl, hgv, r6, hds, hdl, k6⟩
      have bx8 := bx7.grew k6
      have g8 := g7.trans k6
      have HGv := Lib.hid hgv
      have HDS := Lib.hid (show ∀ c ∈ ds, Implied (x 7) (spanD x) (boundE x (spanD x) cs) c ∧ ValidC x c from by rw [HNN.out]; exact hds)
      have hlen : ds.length ≤ 19 := by omega
      have hmm : m6 = ds.length := r6.len
      have hm19 : m6 ≤ 19 := by omega
      have hgb := growth_bd HGd.out HF.out.1 HCS.out HDS.out
      rw [HNN.out, ← hgv] at hgb
      have HOk := Lib.hid (snd_ok HK4.out hP1 hP2 HP3'.out hgb)
      have HOc := Lib.hid (show ∀ c ∈ ds, okC c from fun c hc => okC_valid HGd.out (HDS.out c hc).2)
      have HCl := Lib.hid (clash_none HGd.out HF.out.1 HCS.out HDS.out)
      have HMm := Lib.hid hmm
      clear hgv hds hdl bx7 g7 k6 hd7 HKi y0 y1 y2 y3 y4 hgb hmm
      go_upto_region 14 with (first | (refine st1bS (.tmp 73) (.tmp 72) w5.heap.size 3 (by decide) gv (3, kd, P, 0) (.slice none 0 0) 39 rfl rfl rfl rfl bx8 ?_; intro w8 by8 k8) | (refine stv5S (.tmp 75) (.tmp 74) w5.heap.size A6 m6 c6 (3, kd, P, gv) (.slice none 0 0) 39 rfl rfl rfl rfl by8 ?_; intro w9 bx9 k9))
      have r9 := (r6.keep k8 (fun i e e2 => by have := (r6.lt i e).1; omega)).keep k9 (fun i e e2 => by have := (r6.lt i e).1; omega)
      have g9 : Grew w5 w9 := Keeps.then_ (Keeps.then_ g8 k8 (fun i hi e => by omega)) k9 (fun i hi e => by omega)
      obtain ⟨hbB, hbL, hbD⟩ := snd_bytes HOk.out HOc.out (by omega : ds.length ≤ 20)
      have hbE := (snd_enc HOk.out HOc.out (by omega : ds.length ≤ 20)).1
      have HEn := Lib.hid (bencode_any (3, kd, P, gv) (.slice A6 m6 c6) ds w9 r9.rd (by omega) (HT5.out w9 g9) (HP5.out w9 g9))
      have HbB := Lib.hid hbB
      have HbD := Lib.hid hbD
      have HbE := Lib.hid hbE
      unfold vbl at HEn
      clear bx8 by8 g8 k8 k9 r6 hbB hbD hbE
      go_wp2_with (refine ld5v' 39 infoB Tryz.underlying39 rfl (.tmp 15) w5.heap.size (3, kd, P, gv) (.slice A6 m6 c6) 39 rfl rfl rfl bx9 ?_)
      refine HEn.out.mono ?_
      rintro e w10 ⟨vb10, rfl, b10, k10⟩
      rw [HbE.out]
      have g10 := g9.trans k10
      have bx10 := bx9.grew k10
      have r10 := r9.grew k10
      obtain ⟨A10, n10, c10, rfl, -⟩ := b10.slice
      have hDc := bdecode_any _ _ w10 b10.rd HbB.out (by omega) (HT5.out w10 g10) (HP5.out w10 g10)
      rw [HbD.out] at hDc
      have HDc := Lib.hid hDc
      clear hDc HEn bx9 g9 r9 k10 b10
      go_wp2_with fail
      refine HDc.out.mono ?_
      rintro e w11 ⟨k11, vZ, rfl, mZ⟩
      have g11 := g10.trans k11
      have bx11 := bx10.grew k11
      have r11 := r10.grew k11
      obtain ⟨AZ, nZ, cZ, rfl, hnZ, -⟩ := mZ.slice
      have HnZ := Lib.hid hnZ
      unfold vbl
      clear HDc bx10 g10 r10 k11 hnZ
      go_upto_region 16 with (refine st5 39 infoB (.tmp 21) (.tmp 84) w11.heap.size (3, kd, P, gv) zc (.slice AZ nZ cZ) (.slice none 0 0) 39 rfl rfl rfl rfl rfl (Box.new w11 39 (cells5 zc (.slice none 0 0)).toArray) ?_; intro w12 by12 k12)
      have gS : Grew w11 w12 := Keeps.then_ ((Grew.refl w11).alloc _) k12 (fun i hi e => by omega)
      have g12 := g11.trans gS
      have bx12 := bx11.grew gS
      have r12 := r11.grew gS
      have z12 := mZ.grew gS
      generalize w11.heap.size = g21 at *
      have hN2 := new_ok nm A n c ls x (.slice AZ nZ cZ) ds w12 HNm.out (HL5.out w12 g12) HLs.out HGd.out z12.rd (fun c hc => (HDS.out c hc).2) (by omega) HCl.out
      rw [vdecl_cells, HNN.out] at hN2
      have HN2 := Lib.hid hN2
      have hd12 := HD5.out w12 g12
      have t4 : w12.cell? ⟨g21, 4, none⟩ = some (.slice AZ nZ cZ) := by12.cell 4
      clear hN2 g11 bx11 r11 k12 gS mZ
      go_wp2_with (refine ldN 27 Tryz.underlying27 rfl (.tmp 11) gd (cells12 nm (.slice A n c) x) 27 info12 rfl rfl rfl hd12 ?_)
      refine HN2.out.mono ?_
      rintro e w13 ⟨B2, p2', C2, q2', rfl, m31, m32, k13⟩
      have g13' := g12.trans k13
      have bx13 := bx12.grew k13
      have by13 := by12.grew k13
      have r13 := r12.grew k13
      have z13 := z12.grew k13
      clear HN2 hd12 t4 g12 bx12 by12 r12 z12 k13
      unfold venv cells3
      go_upto_region 17 with fail
      have ga := (Grew.refl w13).alloc (.cells #[.int .i64 (x 7), .slice B2 N p2', .slice C2 N q2'] 32)
      have e14 : Box (w13.alloc (.cells #[.int .i64 (x 7), .slice B2 N p2', .slice C2 N q2'] 32)) w13.heap.size 32 (cells3 (x 7) (.slice B2 N p2') (.slice C2 N q2')).toArray := Box.new _ _ _
      have g14 := g13'.trans ga
      have bx14 := bx13.grew ga
      have by14 := by13.grew ga
      have r14 := r13.grew ga
      have z14 := z13.grew ga
      have s1 := m31.grew ga
      have s2 := m32.grew ga
      generalize w13.alloc (.cells #[.int .i64 (x 7), .slice B2 N p2', .slice C2 N q2'] 32) = w14 at *
      generalize hgg : w13.heap.size = g23 at *
      clear ga g13' bx13 by13 r13 z13 m31 m32 hgg
      have hEq := bequal_any (3, kd, P, gv) (3, kd, P, gv) (.slice A6 m6 c6) (.slice AZ nZ cZ) ds ds w14 r14.rd z14.rd (by omega) (by omega)
      rw [show decide (((3, kd, P, gv) : Clm) = (3, kd, P, gv) ∧ ds = ds) = true by simp] at hEq
      have HEq := Lib.hid hEq
      unfold vbl at HEq
      clear hEq
      obtain ⟨a0, a1, a2, a3, a4⟩ := bx14.five
      obtain ⟨b0, b1, b2, b3, b4⟩ := by14.five
      try simp only at a0 a1 a2 a3 b0 b1 b2 b3
      go_wp2_with fail
      refine HEq.out.mono ?_
      rintro e w15 ⟨rfl, k15⟩
      have g15 := g14.trans k15
      have by15 := by14.grew k15
      have e15 := e14.grew k15
      have u1 := s1.grew k15
      have u2 := s2.grew k15
      clear HEq g14 bx14 by14 r14 z14 e14 s1 s2 k15 a0 a1 a2 a3 a4 b0 b1 b2 b3 b4
      have hrdy := growth_ready HGd.out HF.out.1 HCS.out (fun c hc => (HDS.out c hc).2) HCl.out
      rw [HNN.out] at hrdy
      have hGr := growth_any (x 7) (boundE x N cs).1 (boundE x N cs).2 (boundE x N ds).1 (boundE x N ds).2 B C B2 C2 p q p2' q2' N w15 (HR1.out w15 g15) (HR2.out w15 g15) u1.rd u2.rd hN14.1 (by omega) hrdy
      rw [show growV ((boundE x N cs).1, (boundE x N cs).2) ((boundE x N ds).1, (boundE x N ds).2) N = gv from HGv.out.symm] at hGr
      have HGr := Lib.hid hGr
      have f13 := HE5.out w15 g15
      unfold venv at HGr
      clear hrdy hGr
      go_wp2_with (first | (refine ldN 32 Tryz.underlying32 rfl (.tmp 13) g13 (cells3 (x 7) (.slice B N p) (.slice C N q)) 32 (by kernel_rfl) rfl rfl rfl f13 ?_) | (refine ldN 32 Tryz.underlying32 rfl (.tmp 23) g23 (cells3 (x 7) (.slice B2 N p2') (.slice C2 N q2')) 32 (by kernel_rfl) rfl rfl rfl e15 ?_))
      refine HGr.out.mono ?_
      rintro e w16 ⟨rfl, k16⟩
      have g16 := g15.trans k16
      have by16 := by15.grew k16
      have e16 := e15.grew k16
      have f16 := HE5.out w16 g16
      have v1' := u1.grew k16
      have v2' := u2.grew k16
      clear HGr g15 by15 e15 f13 u1 u2 k16
      have hct := boundE_cont HGd.out HF.out.1 HCS.out HDS.out
      rw [HNN.out] at hct
      have hWi := within_any (x 7) (boundE x N cs).1 (boundE x N cs).2 (boundE x N ds).1 (boundE x N ds).2 B C B2 C2 p q p2' q2' N w16 (HR1.out w16 g16) (HR2.out w16 g16) v1'.rd v2'.rd (by omega) (fun j hj => ⟨(hct.lo j hj).2, (hct.hi j hj).1⟩)
      have HWi := Lib.hid hWi
      unfold venv at HWi
      have c3 : w16.cell? ⟨g21, 3, none⟩ = some (.int .i64 gv) := by16.cell 3
      have tg : decide (gv ≤ gv) = true := by simp
      clear hct hWi v1' v2'
      have a0 : w16.cell? ⟨g13, 0, none⟩ = some (.int .i64 (x 7)) := f16.cell 0
      have a1 : w16.cell? ⟨g13, 1, none⟩ = some (.slice B N p) := f16.cell 1
      have a2 : w16.cell? ⟨g13, 2, none⟩ = some (.slice C N q) := f16.cell 2
      have b0 : w16.cell? ⟨g23, 0, none⟩ = some (.int .i64 (x 7)) := e16.cell 0
      have b1 : w16.cell? ⟨g23, 1, none⟩ = some (.slice B2 N p2') := e16.cell 1
      have b2 : w16.cell? ⟨g23, 2, none⟩ = some (.slice C2 N q2') := e16.cell 2
      unfold cells3 at HWi
      go_wp2_with fail
      refine HWi.out.mono ?_
      rintro e w17 ⟨rfl, k17⟩
      have HLw := Lib.hid (lives18_any w17 (HT5.out w17 (g16.trans k17)) (HP5.out w17 (g16.trans k17)))
      have HGw := Lib.hid (HG5.out w17 (g16.trans k17))
      clear HWi g16 by16 e16 f16 k17 c3 tg a0 a1 a2 b0 b1 b2
      go_wp2_with fail
      refine HLw.out.mono ?_
      rintro e w18 ⟨rfl, k18⟩
      have HGx := Lib.hid (HGw.out.trans k18)
      clear k18
      go_wp2_with fail
      go_ret
      exact ⟨rfl, HGx.out⟩
end Go.Proofs.YtgkmfblmkfclbaaGreatDoor
