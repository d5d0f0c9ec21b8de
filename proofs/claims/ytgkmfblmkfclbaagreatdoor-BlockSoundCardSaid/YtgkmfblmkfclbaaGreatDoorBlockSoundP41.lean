/- lossy.Thin. -/
import Derived.Test.YtgkmfblmkfclbaaGreatDoorBlockSoundP39
import Derived.Test.YtgkmfblmkfclbaaGreatDoorBlockSoundP40
import Derived.Test.YtgkmfblmkfclbaaGreatDoorBlockSoundP35
namespace Go.Proofs.YtgkmfblmkfclbaaGreatDoor
open Go.RowKit Pl

theorem build_thin (nm : ByteArray) (A : Option Addr) (n c : Nat) (x : Fin 10 → Int) (B : Option Addr) (N p : Nat) (C : Option Addr) (q : Nat) (most : Int) (w : World) :
    (Instr.build 102 #[(0, .agg (cells12 nm (.slice A n c) x).toArray), (1, .agg (cells3 (x 7) (.slice B N p) (.slice C N q)).toArray), (2, .int .i64 most)]).run Tryz.prog w = .ok (.agg (cells16 nm A n c x B N p C q most).toArray) w := by kernel_rfl
theorem bld16 {ops : Array Oper} {rest : List Oper} {o : Oper} {a : Act} {w : World} {Q : Exit → Act → World → Prop} (hgd : o.guard = none) (y1 y2 y3 : Operand) (ho : o.op = .build 102 #[(0, y1), (1, y2), (2, y3)]) {nm : ByteArray} {A : Option Addr} {n c : Nat} {x : Fin 10 → Int} {B : Option Addr} {N p : Nat} {C : Option Addr} {q : Nat} {most : Int}
    (h1 : a.eval y1 = .agg (cells12 nm (.slice A n c) x).toArray) (h2 : a.eval y2 = .agg (cells3 (x 7) (.slice B N p) (.slice C N q)).toArray) (h3 : a.eval y3 = .int .i64 most)
    (h : wpList Tryz.prog ops Q rest (a.put o.dst (.agg (cells16 nm A n c x B N p C q most).toArray)) w) : wpList Tryz.prog ops Q (o :: rest) a w := by
  refine wpList_plain hgd fun K hK => ?_
  unfold Oper.wp execOp
  have := build_thin nm A n c x B N p C q most w
  simp only [ho, List.map_toArray, List.map_cons, List.map_nil, h1, h2, h3, this, Sem.run_bind, Sem.run_pure, Result.andThen_ok]
  exact hK _ _ h
def ThinPost (w : World) (f : Int) (N : Nat) (lo hi : Int) (w5 : World) (s13 : Value) (wx : World) : Prop :=
  ∃ h g1 g2 c1 c2, s13 = .pointer (some ⟨h, 0, none⟩) ∧ Box wx h 104 (cells3 f (.slice (some ⟨g1, 0, none⟩) N c1) (.slice (some ⟨g2, 0, none⟩) N c2)).toArray ∧
    Mine wx w.heap.size 3 (.slice (some ⟨g1, 0, none⟩) N c1) ((List.replicate N lo).map vi) ∧ Mine wx w.heap.size 3 (.slice (some ⟨g2, 0, none⟩) N c2) ((List.replicate N hi).map vi) ∧ Grew w5 wx
theorem Box.set3 {w : World} {h : Nat} {t : TypeId} {a b c u v y : Value} (hb : Box w h t #[a, b, c]) : Box (((w.setCell ⟨h, 0, none⟩ u).setCell ⟨h, 1, none⟩ v).setCell ⟨h, 2, none⟩ y) h t #[u, v, y] := ((hb.set_ 0 u).set_ 1 v).set_ 2 y
theorem thin_store {w w5 X : World} {h g1 g2 N c1 c2 : Nat} {f lo hi : Int} {a b c : Value} (hlo : Mine X w.heap.size 3 (.slice (some ⟨g1, 0, none⟩) N c1) ((List.replicate N lo).map vi)) (hhi : Mine X w.heap.size 3 (.slice (some ⟨g2, 0, none⟩) N c2) ((List.replicate N hi).map vi)) (ha : Box X h 104 #[a, b, c]) (hg : Grew w5 X) (hh : w5.heap.size ≤ h) :
    ThinPost w f N lo hi w5 (.pointer (some ⟨h, 0, none⟩)) (((X.setCell ⟨h, 0, none⟩ (.int .i64 f)).setCell ⟨h, 1, none⟩ (.slice (some ⟨g1, 0, none⟩) N c1)).setCell ⟨h, 2, none⟩ (.slice (some ⟨g2, 0, none⟩) N c2)) := by
  have k : Keeps (fun i => i = h) X (((X.setCell ⟨h, 0, none⟩ (.int .i64 f)).setCell ⟨h, 1, none⟩ (.slice (some ⟨g1, 0, none⟩) N c1)).setCell ⟨h, 2, none⟩ (.slice (some ⟨g2, 0, none⟩) N c2)) :=
    (((Keeps.refl (fun i => i = h) X).setCell (p := ⟨h, 0, none⟩) (.inl rfl) _).setCell (p := ⟨h, 1, none⟩) (.inl rfl) _).setCell (p := ⟨h, 2, none⟩) (.inl rfl) _
  exact ⟨h, g1, g2, c1, c2, rfl, ha.set3, hlo.keep k (fun i hi e => hlo.ne_box hi ha (by decide) e), hhi.keep k (fun i hi e => hhi.ne_box hi ha (by decide) e), Keeps.then_ hg k (fun i hi e => by omega)⟩
theorem thin_alloc {w w5 X : World} {g1 g2 N c1 c2 : Nat} {f lo hi : Int} (hlo : Mine X w.heap.size 3 (.slice (some ⟨g1, 0, none⟩) N c1) ((List.replicate N lo).map vi)) (hhi : Mine X w.heap.size 3 (.slice (some ⟨g2, 0, none⟩) N c2) ((List.replicate N hi).map vi)) (hg : Grew w5 X) :
    ThinPost w f N lo hi w5 (.pointer (some ⟨X.heap.size, 0, none⟩)) (X.alloc (.cells #[.int .i64 f, .slice (some ⟨g1, 0, none⟩) N c1, .slice (some ⟨g2, 0, none⟩) N c2] 104)) :=
  ⟨X.heap.size, g1, g2, c1, c2, rfl, Box.new _ _ _, hlo.alloc _, hhi.alloc _, hg.alloc _⟩
set_option maxHeartbeats 12800000 in
set_option maxRecDepth 100000 in
theorem thin_any (nm : ByteArray) (A : Option Addr) (n c : Nat) (ls : List (ByteArray × ByteArray)) (x : Fin 10 → Int) (v : Value) (cs : List Clm) (most : Int) (w : World) (hnm : Low nm) (hL : RdL w (.slice A n c) ls) (hls : GoodL ls) (hx : GoodD x) (hr : RdC w w.heap.size v cs) (hv : ∀ c ∈ cs, ValidC x c) (hl : cs.length + spanD x ≤ 4096) (hc : clashB x (spanD x) cs = false) (hq : 0 ≤ most) :
    Calls Tryz.prog 30 #[vdecl nm (.slice A n c) x, v, .int .i64 most] w (CompPost x (spanD x) cs w) := by
  have HN := Lib.hid (fun w' (g : Grew w w') => new_ok nm A n c ls x v cs w' hnm (hL.grew g) hls hx ((hr.grew (Nat.le_refl _) g).more g.size) hv (by omega) hc)
  have HSo := Lib.hid (fun w' (g : Grew w w') => csort_any v cs w' ((hr.grew (Nat.le_refl _) g).more g.size) (by omega))
  have HKp := Lib.hid (fun (gt : Nat) (B : Option Addr) (p : Nat) (C : Option Addr) (q : Nat) (w' : World) (hK : KSt w' gt nm A n c ls x B (spanD x) p C q most (boundE x (spanD x) cs)) => keep_any gt nm A n c ls x B p C q most cs hnm hls hx hv hc 4096 (Nat.le_refl _) w' hK w' (Grew.refl w') (List.replicate (spanD x) (x 3)) (List.replicate (spanD x) (x 4)))
  have HF := Lib.hid (fun w' (g : Grew w w') (u : Value) (ds : List Clm) (hu : RdC w' w'.heap.size u ds) (h : ∀ d ∈ ds, d ∈ cs) (hdl : ds.length ≤ cs.length) => finish_any nm A n c ls x v u cs ds w' hnm (hL.grew g) hls hx ((hr.grew (Nat.le_refl _) g).more g.size) hv hl hc hu (fun d hd => old_implied hx hv hc d (h d hd)) (by omega))
  have HOI := Lib.hid (old_implied hx hv hc)
  have HSt := Lib.hid (BandOk.start hx hv hc)
  have hs := spanD_le hx
  have hbd : Box (w.alloc (.cells (cells12 nm (.slice A n c) x).toArray 27)) w.heap.size 27 (cells12 nm (.slice A n c) x).toArray := Box.new _ _ _
  have hG0 := (Grew.refl w).alloc (.cells (cells12 nm (.slice A n c) x).toArray 27)
  obtain ⟨A1, m1, q1, rfl, hm1, -⟩ := hr.form
  have hml : m1 ≤ 4096 := by omega
  have HM := Lib.hid hm1
  have HLab := Lib.hid (fun w' (g : Grew w w') => hL.grew g)
  generalize hNN : spanD x = N at *
  obtain ⟨hs1, hs2⟩ := hs
  have HNN := Lib.hid hNN
  clear hr hv hc hL hls hx hnm hNN hl hm1
  rw [vdecl_cells]
  rw [vdecl_cells] at HN HF
  have tq : decide (most < 0) = false := by simp; omega
  go_enter Tryz.func30, Tryz.ntmps30
  go_upto_region 1 with fail
  generalize w.alloc (.cells (cells12 nm (.slice A n c) x).toArray 27) = w1 at *
  go_wp2_with (refine ldN 27 Tryz.underlying27 rfl (.tmp 3) w.heap.size (cells12 nm (.slice A n c) x) 27 info12 rfl rfl rfl hbd ?_)
  refine (HN.out w1 hG0).mono ?_
  rintro e w2 ⟨B, p, C, q, rfl, r1, r2, k2⟩
  have hb2 := hbd.grew k2
  have hG2 := hG0.trans k2
  clear hbd hG0 HN k2
  unfold venv cells3
  go_upto_region 6 with fail
  have ga := (Grew.refl w2).alloc (.cells #[.int .i64 (x 7), .slice B N p, .slice C N q] 32)
  have e3 : Box (w2.alloc (.cells #[.int .i64 (x 7), .slice B N p, .slice C N q] 32)) w2.heap.size 32 (cells3 (x 7) (.slice B N p) (.slice C N q)).toArray := Box.new _ _ _
  have hb3 := hb2.grew ga
  have hG3 := hG2.trans ga
  have r3 := r1.grew ga
  have r4 := r2.grew ga
  generalize w2.alloc (.cells #[.int .i64 (x 7), .slice B N p, .slice C N q] 32) = w3 at *
  generalize hgg : w2.heap.size = g9 at *
  clear ga hb2 hG2 r1 r2 hgg
  have e31 : w3.cell? ⟨g9, 1, none⟩ = some (.slice B N p) := e3.cell 1
  go_upto_region 8 with (first | (refine ldN 27 Tryz.underlying27 rfl (.tmp 3) w.heap.size (cells12 nm (.slice A n c) x) 27 info12 rfl rfl rfl hb3 ?_) | (refine ldN 32 Tryz.underlying32 rfl (.tmp 9) g9 (cells3 (x 7) (.slice B N p) (.slice C N q)) 32 (by kernel_rfl) rfl rfl rfl e3 ?_) | (refine bld16 rfl (.tmp 28) (.tmp 29) (.tmp 30) rfl rfl rfl rfl ?_))
  have gb := (Grew.refl w3).alloc (.cells (cells16 nm A n c x B N p C q most).toArray 102)
  have e4 : Box (w3.alloc (.cells (cells16 nm A n c x B N p C q most).toArray 102)) w3.heap.size 102 (cells16 nm A n c x B N p C q most).toArray := Box.new _ _ _
  have hb5 := hb3.grew gb
  have hG5 := hG3.trans gb
  have r5 := (r3.rd.grew (Nat.le_refl _) gb).more gb.size
  have r6 := (r4.rd.grew (Nat.le_refl _) gb).more gb.size
  generalize w3.alloc (.cells (cells16 nm A n c x B N p C q most).toArray 102) = w5 at *
  generalize hgg : w3.heap.size = gt at *
  have HKS := Lib.hid (show KSt w5 gt nm A n c ls x B N p C q most (boundE x N cs) from ⟨e4, HLab.out w5 hG5, r5, r6⟩)
  have HB5 := Lib.hid hb5
  have HG5 := Lib.hid hG5
  clear hgg gb e4 hb3 hG3 r3 r4 r5 r6 e3 e31 hb5 hG5
  go_cut [13] (fun s13 wx => ThinPost w (x 7) N (x 3) (x 4) w5 s13 wx)
  case first =>
    have HK := Lib.hid (show ∀ w', Grew w5 w' → w'.cell? ⟨w.heap.size, 5, none⟩ = some (.int .i64 (x 3)) ∧ w'.cell? ⟨w.heap.size, 6, none⟩ = some (.int .i64 (x 4)) ∧ w'.cell? ⟨w.heap.size, 9, none⟩ = some (.int .i64 (x 7)) from fun w' g => ⟨(HB5.out.grew g).cell 5, (HB5.out.grew g).cell 6, (HB5.out.grew g).cell 9⟩)
    have hNb : N ≤ 100000 := by omega
    have hw5 := HG5.out.size
    go_region_held3 (fun w' => w'.cell? ⟨w.heap.size, 5, none⟩ = some (.int .i64 (x 3)) ∧ w'.cell? ⟨w.heap.size, 6, none⟩ = some (.int .i64 (x 4)) ∧ w'.cell? ⟨w.heap.size, 9, none⟩ = some (.int .i64 (x 7))) (exact HK.out _ (by repeat (first | assumption | exact Grew.refl _ | with_reducible refine Grew.drew ?_ | with_reducible refine Grew.alloc ?_ _ | with_reducible refine Grew.set_ ?_ (by omega) _)))
      (first | (go_at_call 49; (with_reducible refine (rep_at (x 3) _ N _ ?_ ?_ hNb hs1).mono ?_); (next => ((try rw [cell_drew]); (repeat (first | (rw [cell_new _ _ _ _ _ (by first | rfl | (simp; done))]; rfl) | (rw [cell_old _ _ _ _ (by first | omega | (simp; done) | (simp; omega))]))); done)); (next => (first | omega | (simp; done) | (simp; omega))); rintro e wa ⟨g1, c1, rfl, m1', k1⟩; obtain ⟨ec1, -⟩ := bcell k1.below; (try simp at ec1); have EC1 := Lib.hid ec1; clear ec1; have z1 := k1.size; (try simp at z1); have kA : Grew w5 wa := Grew.trans (by repeat (first | assumption | exact Grew.refl _ | with_reducible refine Grew.drew ?_ | with_reducible refine Grew.alloc ?_ _)) k1; have s1 := kA.size; have m1b := m1'.base_le (base' := w.heap.size) (HG5.out.trans (by repeat (first | assumption | exact Grew.refl _ | with_reducible refine Grew.drew ?_ | with_reducible refine Grew.alloc ?_ _))).size; (first | (refine have_of (P := Box wa (w5.heap.size) 104 #[.int .i64 0, .slice none 0 0, .slice none 0 0]) (Box.grew ?_ k1) ?_; (next => ((repeat (first | ((with_reducible refine Box.new_ _ _ _ ?_); first | omega | (simp; done)) | with_reducible refine Box.drew ?_ | with_reducible refine Box.alloc ?_ _)); done)); intro bA) | (refine have_of (P := Box wa (w5.heap.size + 1) 104 #[.int .i64 0, .slice none 0 0, .slice none 0 0]) (Box.grew ?_ k1) ?_; (next => ((repeat (first | ((with_reducible refine Box.new_ _ _ _ ?_); first | omega | (simp; done)) | with_reducible refine Box.drew ?_ | with_reducible refine Box.alloc ?_ _)); done)); intro bA) | (refine have_of (P := Box wa (w5.heap.size + 1 + 1) 104 #[.int .i64 0, .slice none 0 0, .slice none 0 0]) (Box.grew ?_ k1) ?_; (next => ((repeat (first | ((with_reducible refine Box.new_ _ _ _ ?_); first | omega | (simp; done)) | with_reducible refine Box.drew ?_ | with_reducible refine Box.alloc ?_ _)); done)); intro bA) | skip)) | (go_at_call 49; (with_reducible refine (rep_at (x 4) _ N _ ?_ ?_ hNb hs1).mono ?_); (next => ((try rw [cell_drew]); (repeat (first | (rw [EC1.out _ _ (by omega)]) | (rw [cell_drew]) | (rw [cell_new _ _ _ _ _ (by first | rfl | (simp; done))]; rfl) | (rw [cell_old _ _ _ _ (by first | omega | (simp; done) | (simp; omega))]))); done)); (next => (first | omega | (simp; done) | (simp; omega))); rintro e wb ⟨g2, c2, rfl, m2', k2⟩; have z2 := k2.size; (try simp at z2); have kB : Grew w5 wb := Grew.trans (by repeat (first | assumption | exact Grew.refl _ | with_reducible refine Grew.drew ?_ | with_reducible refine Grew.alloc ?_ _)) k2; have kab : Grew wa wb := Grew.trans (by repeat (first | assumption | exact Grew.refl _ | with_reducible refine Grew.drew ?_ | with_reducible refine Grew.alloc ?_ _)) k2; have s2 := kB.size; have m2b := m2'.base_le (base' := w.heap.size) (HG5.out.trans (by repeat (first | assumption | exact Grew.refl _ | with_reducible refine Grew.drew ?_ | with_reducible refine Grew.alloc ?_ _))).size; (first | (have bB : Box wb (w5.heap.size) 104 #[.int .i64 0, .slice none 0 0, .slice none 0 0] := bA.grew kab; have cB0 : wb.cell? ⟨w5.heap.size, 0, none⟩ = some (.int .i64 0) := bB.cell 0; have cB1 : wb.cell? ⟨w5.heap.size, 1, none⟩ = some (.slice none 0 0) := bB.cell 1; have cB2 : wb.cell? ⟨w5.heap.size, 2, none⟩ = some (.slice none 0 0) := bB.cell 2; have fB0 : wb.frozen? ⟨w5.heap.size, 0, none⟩ = false := bB.frozen 0; have fB1 : wb.frozen? ⟨w5.heap.size, 1, none⟩ = false := bB.frozen 1; have fB2 : wb.frozen? ⟨w5.heap.size, 2, none⟩ = false := bB.frozen 2) | (have bB : Box wb (w5.heap.size + 1) 104 #[.int .i64 0, .slice none 0 0, .slice none 0 0] := bA.grew kab; have cB0 : wb.cell? ⟨w5.heap.size + 1, 0, none⟩ = some (.int .i64 0) := bB.cell 0; have cB1 : wb.cell? ⟨w5.heap.size + 1, 1, none⟩ = some (.slice none 0 0) := bB.cell 1; have cB2 : wb.cell? ⟨w5.heap.size + 1, 2, none⟩ = some (.slice none 0 0) := bB.cell 2; have fB0 : wb.frozen? ⟨w5.heap.size + 1, 0, none⟩ = false := bB.frozen 0; have fB1 : wb.frozen? ⟨w5.heap.size + 1, 1, none⟩ = false := bB.frozen 1; have fB2 : wb.frozen? ⟨w5.heap.size + 1, 2, none⟩ = false := bB.frozen 2) | (have bB : Box wb (w5.heap.size + 1 + 1) 104 #[.int .i64 0, .slice none 0 0, .slice none 0 0] := bA.grew kab; have cB0 : wb.cell? ⟨w5.heap.size + 1 + 1, 0, none⟩ = some (.int .i64 0) := bB.cell 0; have cB1 : wb.cell? ⟨w5.heap.size + 1 + 1, 1, none⟩ = some (.slice none 0 0) := bB.cell 1; have cB2 : wb.cell? ⟨w5.heap.size + 1 + 1, 2, none⟩ = some (.slice none 0 0) := bB.cell 2; have fB0 : wb.frozen? ⟨w5.heap.size + 1 + 1, 0, none⟩ = false := bB.frozen 0; have fB1 : wb.frozen? ⟨w5.heap.size + 1 + 1, 1, none⟩ = false := bB.frozen 1; have fB2 : wb.frozen? ⟨w5.heap.size + 1 + 1, 2, none⟩ = false := bB.frozen 2; have cC0 : wb.cell? ⟨w5.heap.size + 2, 0, none⟩ = some (.int .i64 0) := bB.cell 0; have cC1 : wb.cell? ⟨w5.heap.size + 2, 1, none⟩ = some (.slice none 0 0) := bB.cell 1; have cC2 : wb.cell? ⟨w5.heap.size + 2, 2, none⟩ = some (.slice none 0 0) := bB.cell 2; have fC0 : wb.frozen? ⟨w5.heap.size + 2, 0, none⟩ = false := bB.frozen 0; have fC1 : wb.frozen? ⟨w5.heap.size + 2, 1, none⟩ = false := bB.frozen 1; have fC2 : wb.frozen? ⟨w5.heap.size + 2, 2, none⟩ = false := bB.frozen 2) | (refine have_of (P := Box wb (wa.heap.size) 104 #[.int .i64 0, .slice none 0 0, .slice none 0 0]) (Box.grew ?_ k2) ?_; (next => ((repeat (first | ((with_reducible refine Box.new_ _ _ _ ?_); first | omega | (simp; done)) | with_reducible refine Box.drew ?_ | with_reducible refine Box.alloc ?_ _)); done)); intro bB; have cB0 : wb.cell? ⟨wa.heap.size, 0, none⟩ = some (.int .i64 0) := bB.cell 0; have cB1 : wb.cell? ⟨wa.heap.size, 1, none⟩ = some (.slice none 0 0) := bB.cell 1; have cB2 : wb.cell? ⟨wa.heap.size, 2, none⟩ = some (.slice none 0 0) := bB.cell 2; have fB0 : wb.frozen? ⟨wa.heap.size, 0, none⟩ = false := bB.frozen 0; have fB1 : wb.frozen? ⟨wa.heap.size, 1, none⟩ = false := bB.frozen 1; have fB2 : wb.frozen? ⟨wa.heap.size, 2, none⟩ = false := bB.frozen 2) | (refine have_of (P := Box wb (wa.heap.size + 1) 104 #[.int .i64 0, .slice none 0 0, .slice none 0 0]) (Box.grew ?_ k2) ?_; (next => ((repeat (first | ((with_reducible refine Box.new_ _ _ _ ?_); first | omega | (simp; done)) | with_reducible refine Box.drew ?_ | with_reducible refine Box.alloc ?_ _)); done)); intro bB; have cB0 : wb.cell? ⟨wa.heap.size + 1, 0, none⟩ = some (.int .i64 0) := bB.cell 0; have cB1 : wb.cell? ⟨wa.heap.size + 1, 1, none⟩ = some (.slice none 0 0) := bB.cell 1; have cB2 : wb.cell? ⟨wa.heap.size + 1, 2, none⟩ = some (.slice none 0 0) := bB.cell 2; have fB0 : wb.frozen? ⟨wa.heap.size + 1, 0, none⟩ = false := bB.frozen 0; have fB1 : wb.frozen? ⟨wa.heap.size + 1, 1, none⟩ = false := bB.frozen 1; have fB2 : wb.frozen? ⟨wa.heap.size + 1, 2, none⟩ = false := bB.frozen 2) | skip)) | fail)
    all_goals
      go_wp2_with fail
      go_meet
      first
        | exact thin_alloc (m1b.grew kab) m2b kB
        | exact thin_store (m1b.grew kab) m2b bB kB (by omega)
  case rest =>
    obtain ⟨h13, g1, g2, c1, c2, rfl, hbx, hm1, hm2, hg⟩ := hcut
    have hGc := HG5.out.trans hg
    have hbc := HB5.out.grew hg
    have hA1 : wc.drew.rangeAt w.heap.size 0 (cells12 nm (.slice A n c) x) := hbc.rangeN 0 _ (by simp [cells12])
    have hA2 : wc.drew.rangeAt h13 0 (cells3 (x 7) (.slice (some ⟨g1, 0, none⟩) N c1) (.slice (some ⟨g2, 0, none⟩) N c2)) := hbx.rangeN 0 _ (by simp)
    have HSo1 := Lib.hid (HSo.out wc.drew (Keeps.drew hGc))
    have HKc := Lib.hid (HKS.out.grew hg)
    have HBc := Lib.hid hbc
    have HBx := Lib.hid hbx
    have HM1 := Lib.hid hm1.rd
    have HM2 := Lib.hid hm2.rd
    have HGc := Lib.hid hGc
    clear hbx hm1 hm2 hg hGc hbc HKS HB5 HG5 HSo HLab
    go_upto_region 9 with fail
    refine late_region [(7, fun w' => w'.rangeAt w.heap.size 0 (cells12 nm (.slice A n c) x)), (6, fun w' => w'.rangeAt h13 0 (cells3 (x 7) (.slice (some ⟨g1, 0, none⟩) N c1) (.slice (some ⟨g2, 0, none⟩) N c2)))] (by kernel_rfl) (by intro pp hp; simp at hp; rcases hp with rfl | rfl; (exact hA1); exact hA2) ?_
    intro hcl hkn
    refine take_row 7 _ (i := 0) rfl (by kernel_rfl) (by kernel_rfl) (by kernel_rfl) hcl hkn (by rfl) 0 rfl (by kernel_rfl) 27 (.tmp 3) rfl w.heap.size 0 rfl (cells12 nm (.slice A n c) x) _ (fun w h => h) Tryz.underlying27 rfl info12 (fun _ _ _ h => h) rfl ?_
    clear hcl hkn
    intro hcl hkn
    try simp only [List.getElem_toArray, List.getElem_cons_zero, Act.put, List.setIfInBounds_toArray, List.set_cons_zero, List.set_cons_succ]
    refine' take_pure (i := 1) (v := _) rfl (by kernel_rfl) (by kernel_rfl) (by kernel_rfl) hcl hkn (by rfl) (fun _ _ _ h => h) rfl ?_ ?_
    rotate_left
    · intro w'; go_simp; try with_reducible rfl
    clear hcl hkn
    intro hcl hkn
    try simp only [List.getElem_toArray, List.getElem_cons_zero, List.getElem_cons_succ, Act.put, List.setIfInBounds_toArray, List.set_cons_zero, List.set_cons_succ]
    refine' take_pure (i := 2) (v := _) rfl (by kernel_rfl) (by kernel_rfl) (by kernel_rfl) hcl hkn (by rfl) (fun _ _ _ h => h) rfl ?_ ?_
    rotate_left
    · intro w'; go_simp; try with_reducible rfl
    clear hcl hkn
    intro hcl hkn
    try simp only [List.getElem_toArray, List.getElem_cons_zero, List.getElem_cons_succ, Act.put, List.setIfInBounds_toArray, List.set_cons_zero, List.set_cons_succ]
    refine take_row 6 _ (i := 3) rfl (by kernel_rfl) (by kernel_rfl) (by kernel_rfl) hcl hkn (by rfl) 1 rfl (by kernel_rfl) 104 (.tmp 13) rfl h13 0 rfl (cells3 (x 7) (.slice (some ⟨g1, 0, none⟩) N c1) (.slice (some ⟨g2, 0, none⟩) N c2)) _ (fun w h => h) Tryz.underlying104 rfl (by kernel_rfl) (fun _ _ _ h => h) rfl ?_
    clear hcl hkn
    intro hcl hkn
    try simp only [List.getElem_toArray, List.getElem_cons_zero, List.getElem_cons_succ, Act.put, List.setIfInBounds_toArray, List.set_cons_zero, List.set_cons_succ]
    refine' take_pure (i := 4) (v := _) rfl (by kernel_rfl) (by kernel_rfl) (by kernel_rfl) hcl hkn (by rfl) (fun _ _ _ h => h) rfl ?_ ?_
    rotate_left
    · intro w'; go_simp; try with_reducible rfl
    clear hcl hkn
    intro hcl hkn
    try simp only [List.getElem_toArray, List.getElem_cons_zero, List.getElem_cons_succ, Act.put, List.setIfInBounds_toArray, List.set_cons_zero, List.set_cons_succ]
    clear hA1 hA2
    refine one_next hcl (i := 5) (by kernel_rfl) rfl rfl (fun K hK => ?_)
    go_simp
    refine HSo1.out.mono ?_
    rintro e wd ⟨vd, es, rfl, hp, md, kd⟩
    obtain ⟨Ad, nd, qd, rfl, hnd, -⟩ := md.slice
    have hgd : Grew wc wd := Grew.trans (Keeps.drew (Grew.refl wc)) kd
    have hnd' : nd ≤ 4096 := by have := hp.length_eq; have := HM.out; omega
    have HPm := Lib.hid hp
    clear hnd hp kd
    refine hK _ _ (known_two (.inr ((HBc.out.grew hgd).rangeN 0 _ (by simp [cells12]))) (.inr ((HBx.out.grew hgd).rangeN 0 _ (by simp)))) ?_
    clear hK K hcl hkn
    intro hcl hkn
    try simp only [List.getElem_toArray, List.getElem_cons_zero, List.getElem_cons_succ, Act.put, List.setIfInBounds_toArray, List.set_cons_zero, List.set_cons_succ]
    have hK1 := HKp.out gt B p C q wd (HKc.out.grew hgd) _ _ c1 c2 ((HM1.out.grew (Nat.le_refl _) hgd).more hgd.size) ((HM2.out.grew (Nat.le_refl _) hgd).more hgd.size) HSt.out Ad nd qd es md.rd (fun d hd => HOI.out d (HPm.out.mem_iff.1 hd)) hnd'
    have HK1 := Lib.hid hK1
    have HGd := Lib.hid (HGc.out.trans hgd)
    have HBd := Lib.hid (HBc.out.grew hgd)
    unfold venv at HK1
    clear hK1 hgd md HSo1 HKc HBc HBx HM1 HM2 HGc
    refine one_next hcl (i := 6) (by kernel_rfl) rfl rfl (fun K hK => ?_)
    go_simp
    refine HK1.out.mono ?_
    rintro e we ⟨Ae, ne', ce, ds, rfl, hne, re, hds, hdl, ke⟩
    have HNe := Lib.hid hne
    clear hne
    refine hK _ _ (known_two (.inr ((HBd.out.grew ke).rangeN 0 _ (by simp [cells12]))) (.inl (by kernel_rfl))) ?_
    clear hK K hcl hkn
    intro hcl hkn
    try simp only [List.getElem_toArray, List.getElem_cons_zero, List.getElem_cons_succ, Act.put, List.setIfInBounds_toArray, List.set_cons_zero, List.set_cons_succ]
    have hGe := HGd.out.trans ke
    have HFn := Lib.hid (HF.out we hGe _ ds re (fun d hd => HPm.out.mem_iff.1 (hds d hd)) (by have := HPm.out.length_eq; omega))
    have HGe := Lib.hid hGe
    clear hGe re hds hdl ke HK1 HGd HBd
    refine one_next hcl (i := 7) (by kernel_rfl) rfl rfl (fun K hK => ?_)
    go_simp
    refine HFn.out.mono ?_
    intro e wf h6
    have h6' := h6.from_ HGe.out
    obtain ⟨A6, m6, c6, g6, rfl⟩ := h6'.form
    have HR6 := Lib.hid h6'
    clear h6 h6' HFn
    refine hK _ _ (known_two (.inl (by kernel_rfl)) (.inl (by kernel_rfl))) ?_
    clear hK K hcl hkn
    intro hcl hkn
    try simp only [List.getElem_toArray, List.getElem_cons_zero, List.getElem_cons_succ, Act.put, List.setIfInBounds_toArray, List.set_cons_zero, List.set_cons_succ]
    refine' take_pure (i := 8) (v := _) rfl (by kernel_rfl) (by kernel_rfl) (by kernel_rfl) hcl hkn (by rfl) (fun _ _ _ h => h) rfl ?_ ?_
    rotate_left
    · intro w'; go_simp; try with_reducible rfl
    clear hcl hkn
    intro hcl hkn
    try simp only [List.getElem_toArray, List.getElem_cons_zero, List.getElem_cons_succ, Act.put, List.setIfInBounds_toArray, List.set_cons_zero, List.set_cons_succ]
    refine' take_pure (i := 9) (v := _) rfl (by kernel_rfl) (by kernel_rfl) (by kernel_rfl) hcl hkn (by rfl) (fun _ _ _ h => h) rfl ?_ ?_
    rotate_left
    · intro w'; go_simp; try with_reducible rfl
    clear hcl hkn
    intro hcl hkn
    try simp only [List.getElem_toArray, List.getElem_cons_zero, List.getElem_cons_succ, Act.put, List.setIfInBounds_toArray, List.set_cons_zero, List.set_cons_succ]
    refine' take_pure (i := 10) (v := _) rfl (by kernel_rfl) (by kernel_rfl) (by kernel_rfl) hcl hkn (by rfl) (fun _ _ _ h => h) rfl ?_ ?_
    rotate_left
    · intro w'; go_simp; try with_reducible rfl
    clear hcl hkn
    intro hcl hkn
    try simp only [List.getElem_toArray, List.getElem_cons_zero, List.getElem_cons_succ, Act.put, List.setIfInBounds_toArray, List.set_cons_zero, List.set_cons_succ]
    refine' take_pure (i := 11) (v := _) rfl (by kernel_rfl) (by kernel_rfl) (by kernel_rfl) hcl hkn (by rfl) (fun _ _ _ h => h) rfl ?_ ?_
    rotate_left
    · intro w'; go_simp; try with_reducible rfl
    clear hcl hkn
    intro hcl hkn
    try simp only [List.getElem_toArray, List.getElem_cons_zero, List.getElem_cons_succ, Act.put, List.setIfInBounds_toArray, List.set_cons_zero, List.set_cons_succ]
    refine' take_pure (i := 12) (v := _) rfl (by kernel_rfl) (by kernel_rfl) (by kernel_rfl) hcl hkn (by rfl) (fun _ _ _ h => h) rfl ?_ ?_
    rotate_left
    · intro w'; go_simp; try with_reducible rfl
    clear hcl hkn
    intro hcl hkn
    try simp only [List.getElem_toArray, List.getElem_cons_zero, List.getElem_cons_succ, Act.put, List.setIfInBounds_toArray, List.set_cons_zero, List.set_cons_succ]
    refine' take_pure (i := 13) (v := _) rfl (by kernel_rfl) (by kernel_rfl) (by kernel_rfl) hcl hkn (by rfl) (fun _ _ _ h => h) rfl ?_ ?_
    rotate_left
    · intro w'; go_simp; try with_reducible rfl
    clear hcl hkn
    intro hcl hkn
    try simp only [List.getElem_toArray, List.getElem_cons_zero, List.getElem_cons_succ, Act.put, List.setIfInBounds_toArray, List.set_cons_zero, List.set_cons_succ]
    refine all_done (by kernel_rfl) ?_ _
    clear hcl hkn
    go_wp2_with fail
    exact bodyPost_ret (v := .tuple #[.slice A6 m6 c6, .int .i64 g6, .int .i64 0]) (by simp [results, Tryz.results30, go_sem]) rfl HR6.out
end Go.Proofs.YtgkmfblmkfclbaaGreatDoor
