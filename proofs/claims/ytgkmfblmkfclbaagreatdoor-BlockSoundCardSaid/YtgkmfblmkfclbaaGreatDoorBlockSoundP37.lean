/- envelope.New: the bounds, or a clash. lossy.Cost: the growth of the envelope. -/
import Derived.Test.YtgkmfblmkfclbaaGreatDoorBlockSoundP36
import Derived.Test.YtgkmfblmkfclbaaGreatDoorBlockSoundP29
import Derived.Defers
import Derived.Recover
import Derived.RegionTactic
import Derived.BigRegion
import Derived.Test.YtgkmfblmkfclbaaGreatDoorBlockSoundP27
namespace Go.Proofs.YtgkmfblmkfclbaaGreatDoor
open Go.RowKit Pl

/- the deferred closure: idle without an error -/
theorem newdef_idle (g5 g4 : Nat) (u : FrameMode) (w : World) (h : w.cell? ⟨g5, 0, none⟩ = some (.int .i64 0)) :
    CallsD Tryz.prog 20 #[.pointer (some ⟨g5, 0, none⟩), .pointer (some ⟨g4, 0, none⟩)] u w fun e u' w' => u' = u ∧ (e = .returned (.tuple #[]) ∧ w' = w) := by
  go_enter_d Tryz.func20, Tryz.ntmps20
  go_wp2
  go_end0
  exact ⟨rfl, rfl⟩
theorem newdef_clash (g5 g4 : Nat) (u : FrameMode) (w : World) (cs : List Value) (hl : cs.length = 3) (h : w.cell? ⟨g5, 0, none⟩ = some (.int .i64 13)) (hb : Box w g4 32 cs.toArray) :
    CallsD Tryz.prog 20 #[.pointer (some ⟨g5, 0, none⟩), .pointer (some ⟨g4, 0, none⟩)] u w fun e u' w' => u' = u ∧ (e = .returned (.tuple #[]) ∧ Box w' g4 32 (cells3 0 (.slice none 0 0) (.slice none 0 0)).toArray ∧ Keeps (fun i => i = g4) w w') := by
  go_enter_d Tryz.func20, Tryz.ntmps20
  go_wp2_with (refine stN 32 (.tmp 1) (.tmp 4) g4 (cells3 0 (.slice none 0 0) (.slice none 0 0)) cs 32 (by kernel_rfl) hl (by intro v hv; simp [cells3] at hv; rcases hv with rfl | rfl | rfl <;> rfl) rfl rfl rfl rfl hb ?_; intro w9 bx9 k9 d9)
  go_end0
  exact ⟨rfl, bx9, k9⟩
/- the declaration, the envelope and the error in boxes -/
structure NwS (w wr : World) (nm : ByteArray) (A : Option Addr) (n c : Nat) (x : Fin 10 → Int) (f : Int) (a b : Value) (y : Int) : Prop where
  dbox : Box wr w.heap.size 27 (cells12 nm (.slice A n c) x).toArray
  ebox : Box wr (w.heap.size + 1) 32 (cells3 f a b).toArray
  rbox : Box wr (w.heap.size + 1 + 1) 33 #[.int .i64 y]
  grew : Grew w wr
theorem NwS.more {w wr w' : World} {nm : ByteArray} {A : Option Addr} {n c : Nat} {x : Fin 10 → Int} {f : Int} {a b : Value} {y : Int} (h : NwS w wr nm A n c x f a b y) (k : Grew wr w') : NwS w w' nm A n c x f a b y :=
  ⟨h.dbox.grew k, h.ebox.grew k, h.rbox.grew k, h.grew.trans k⟩
theorem NwS.err {w wr : World} {nm : ByteArray} {A : Option Addr} {n c : Nat} {x : Fin 10 → Int} {f : Int} {a b : Value} {y : Int} (h : NwS w wr nm A n c x f a b y) (z : Int) : NwS w (wr.setCell ⟨w.heap.size + 1 + 1, 0, none⟩ (.int .i64 z)) nm A n c x f a b z :=
  ⟨h.dbox.far (p := ⟨w.heap.size + 1 + 1, 0, none⟩) (by simp; omega) _, h.ebox.far (p := ⟨w.heap.size + 1 + 1, 0, none⟩) (by simp) _, h.rbox.set_ 0 _, Keeps.setCell h.grew (p := ⟨w.heap.size + 1 + 1, 0, none⟩) (.inr (by simp; omega)) _⟩
theorem NwS.env {w wr w' : World} {nm : ByteArray} {A : Option Addr} {n c : Nat} {x : Fin 10 → Int} {f : Int} {a b : Value} {y : Int} (h : NwS w wr nm A n c x f a b y) {f' : Int} {a' b' : Value} (hb : Box w' (w.heap.size + 1) 32 (cells3 f' a' b').toArray) (k : Keeps (fun i => i = w.heap.size + 1) wr w') : NwS w w' nm A n c x f' a' b' y :=
  ⟨h.dbox.keep k (by omega), hb, h.rbox.keep k (by omega), Keeps.then_ h.grew k (fun i hi e => by omega)⟩
theorem NwS.back {w wr : World} {nm : ByteArray} {A : Option Addr} {n c : Nat} {x : Fin 10 → Int} {f : Int} {a b : Value} {y : Int} (h : NwS w wr nm A n c x f a b y) :
    NwS w ((((wr.setCell ⟨w.heap.size + 1, 0, none⟩ (.int .i64 f)).setCell ⟨w.heap.size + 1, 1, none⟩ a).setCell ⟨w.heap.size + 1, 2, none⟩ b).setCell ⟨w.heap.size + 1 + 1, 0, none⟩ (.int .i64 y)).drew nm A n c x f a b y := by
  have k : Keeps (fun i => i = w.heap.size + 1) wr (((wr.setCell ⟨w.heap.size + 1, 0, none⟩ (.int .i64 f)).setCell ⟨w.heap.size + 1, 1, none⟩ a).setCell ⟨w.heap.size + 1, 2, none⟩ b) :=
    (((Keeps.refl (fun i => i = w.heap.size + 1) wr).setCell (p := ⟨w.heap.size + 1, 0, none⟩) (.inl rfl) _).setCell (p := ⟨w.heap.size + 1, 1, none⟩) (.inl rfl) _).setCell (p := ⟨w.heap.size + 1, 2, none⟩) (.inl rfl) _
  exact ((h.env (f' := f) (a' := a) (b' := b) (((h.ebox.set_ 0 _).set_ 1 _).set_ 2 _) k).err y).more (Keeps.drew (Grew.refl _))
theorem NwS.cells {w wr : World} {nm : ByteArray} {A : Option Addr} {n c : Nat} {x : Fin 10 → Int} {f : Int} {a b : Value} {y : Int} (h : NwS w wr nm A n c x f a b y) : wr.cell? ⟨w.heap.size + 1, 0, none⟩ = some (.int .i64 f) ∧ wr.cell? ⟨w.heap.size + 1, 1, none⟩ = some a ∧ wr.cell? ⟨w.heap.size + 1, 2, none⟩ = some b ∧ wr.cell? ⟨w.heap.size + 1 + 1, 0, none⟩ = some (.int .i64 y) :=
  ⟨h.ebox.cell 0, h.ebox.cell 1, h.ebox.cell 2, h.rbox.cell 0⟩
theorem NwS.free {w wr : World} {nm : ByteArray} {A : Option Addr} {n c : Nat} {x : Fin 10 → Int} {f : Int} {a b : Value} {y : Int} (h : NwS w wr nm A n c x f a b y) : wr.frozen? ⟨w.heap.size + 1, 0, none⟩ = false ∧ wr.frozen? ⟨w.heap.size + 1, 1, none⟩ = false ∧ wr.frozen? ⟨w.heap.size + 1, 2, none⟩ = false ∧ wr.frozen? ⟨w.heap.size + 1 + 1, 0, none⟩ = false :=
  ⟨h.ebox.frozen 0, h.ebox.frozen 1, h.ebox.frozen 2, h.rbox.frozen 0⟩
theorem Mine.backs {w wr : World} {nm : ByteArray} {A : Option Addr} {n c : Nat} {x : Fin 10 → Int} {f : Int} {a b : Value} {y : Int} {v : Value} {xs : List Value} (hm : Mine wr w.heap.size 3 v xs) (h : NwS w wr nm A n c x f a b y) :
    Mine ((((wr.setCell ⟨w.heap.size + 1, 0, none⟩ (.int .i64 f)).setCell ⟨w.heap.size + 1, 1, none⟩ a).setCell ⟨w.heap.size + 1, 2, none⟩ b).setCell ⟨w.heap.size + 1 + 1, 0, none⟩ (.int .i64 y)).drew w.heap.size 3 v xs := by
  refine hm.keep (S := fun i => i = w.heap.size + 1 ∨ i = w.heap.size + 1 + 1) ?_ (fun i hi e => ?_)
  · exact Keeps.drew (((((Keeps.refl _ wr).setCell (p := ⟨w.heap.size + 1, 0, none⟩) (.inl (.inl rfl)) _).setCell (p := ⟨w.heap.size + 1, 1, none⟩) (.inl (.inl rfl)) _).setCell (p := ⟨w.heap.size + 1, 2, none⟩) (.inl (.inl rfl)) _).setCell (p := ⟨w.heap.size + 1 + 1, 0, none⟩) (.inl (.inr rfl)) _)
  · rcases e with e | e
    · exact hm.ne_box hi h.ebox (by decide) e
    · exact hm.ne_box hi h.rbox (by decide) e
/- what New returns -/
def NewPost (x : Fin 10 → Int) (N : Nat) (cs : List Clm) (w : World) (e : Ending) (w' : World) : Prop :=
  (clashB x N cs = true ∧ e = .returned (.tuple #[venv 0 (.slice none 0 0) (.slice none 0 0), .int .i64 13]) ∧ Grew w w') ∨
  (clashB x N cs = false ∧ ∃ B p C q, e = .returned (.tuple #[venv (x 7) (.slice B N p) (.slice C N q), .int .i64 0]) ∧ Mine w' w.heap.size 3 (.slice B N p) ((boundE x N cs).1.map vi) ∧ Mine w' w.heap.size 3 (.slice C N q) ((boundE x N cs).2.map vi) ∧ Grew w w')
set_option maxHeartbeats 6400000 in
set_option maxRecDepth 100000 in
theorem new_any (nm : ByteArray) (A : Option Addr) (n c : Nat) (ls : List (ByteArray × ByteArray)) (x : Fin 10 → Int) (v : Value) (cs : List Clm) (w : World) (hnm : Low nm) (hL : RdL w (.slice A n c) ls) (hls : GoodL ls) (hx : GoodD x) (hr : RdC w w.heap.size v cs) (hv : ∀ c ∈ cs, ValidC x c) (hl : cs.length ≤ 4096) :
    Calls Tryz.prog 6 #[vdecl nm (.slice A n c) x, v] w (NewPost x (spanD x) cs w) := by
  have hmf : ∀ (fn : Fn) (first cap : Array Value) (w : World), (Instr.makeFunc fn first cap).run Tryz.prog w = .ok (.func fn first cap) w := fun _ _ _ _ => rfl
  have HBa := Lib.hid (fun w' (g : Grew w w') => bands_any nm A n c ls x v cs w' hnm (hL.grew g) hls hx ((hr.grew (Nat.le_refl _) g).more g.size) hv hl)
  have HBo := Lib.hid (fun w' (g : Grew w w') => ebound_any nm A n c x v cs w' hx ((hr.grew (Nat.le_refl _) g).more g.size) hv hl)
  have hs2 := (spanD_le hx).2
  have HNN := Lib.hid (show spanD x = spanD x from rfl)
  obtain ⟨Av, m, q, rfl, hm, -⟩ := hr.form
  have HM := Lib.hid hm
  have hml : m ≤ 4096 := by omega
  rw [← hm] at HBo
  have hbd : Box (((w.alloc (.cells (cells12 nm (.slice A n c) x).toArray 27)).alloc (.cells #[.int .i64 0, .slice none 0 0, .slice none 0 0] 32)).alloc (.cells #[.int .i64 0] 33)) w.heap.size 27 (cells12 nm (.slice A n c) x).toArray := ((Box.new _ _ _).alloc _).alloc _
  have hb4 : Box (((w.alloc (.cells (cells12 nm (.slice A n c) x).toArray 27)).alloc (.cells #[.int .i64 0, .slice none 0 0, .slice none 0 0] 32)).alloc (.cells #[.int .i64 0] 33)) (w.heap.size + 1) 32 (cells3 0 (.slice none 0 0) (.slice none 0 0)).toArray := (Box.new_ _ _ _ (by simp)).alloc _
  have hb5 : Box (((w.alloc (.cells (cells12 nm (.slice A n c) x).toArray 27)).alloc (.cells #[.int .i64 0, .slice none 0 0, .slice none 0 0] 32)).alloc (.cells #[.int .i64 0] 33)) (w.heap.size + 1 + 1) 33 #[.int .i64 0] := Box.new_ _ _ _ (by simp)
  have hG0 : Grew w (((w.alloc (.cells (cells12 nm (.slice A n c) x).toArray 27)).alloc (.cells #[.int .i64 0, .slice none 0 0, .slice none 0 0] 32)).alloc (.cells #[.int .i64 0] 33)) := (((Grew.refl w).alloc _).alloc _).alloc _
  clear hr hv hm hL hls hx hnm
  rw [vdecl_cells]
  rw [vdecl_cells] at HBa HBo
  go_enter_defers Tryz.func6, Tryz.ntmps6
  go_upto_region 1 with fail
  generalize ((w.alloc (.cells (cells12 nm (.slice A n c) x).toArray 27)).alloc (.cells #[.int .i64 0, .slice none 0 0, .slice none 0 0] 32)).alloc (.cells #[.int .i64 0] 33) = w1 at *
  go_wp2_with (refine ldN 27 Tryz.underlying27 rfl (.tmp 2) w.heap.size (cells12 nm (.slice A n c) x) 27 info12 rfl rfl rfl hbd ?_)
  refine (HBa.out w1 hG0).mono ?_
  rintro e w2 ⟨u2, rfl, k2⟩
  have hS2 : NwS w w2 nm A n c x 0 (.slice none 0 0) (.slice none 0 0) 0 := ⟨hbd.grew k2, hb4.grew k2, hb5.grew k2, hG0.trans k2⟩
  clear hbd hb4 hb5 hG0 k2 HBa
  have hbe : bErr x (spanD x) cs = 13 ∧ crossB (bandE x (spanD x) cs).1 (bandE x (spanD x) cs).2 = true ∨ bErr x (spanD x) cs = 0 ∧ crossB (bandE x (spanD x) cs).1 (bandE x (spanD x) cs).2 = false := by
    unfold bErr
    by_cases h : crossB (bandE x (spanD x) cs).1 (bandE x (spanD x) cs).2 = true
    · exact .inl ⟨if_pos h, h⟩
    · exact .inr ⟨if_neg h, by simpa using h⟩
  obtain ⟨r0, r1, r2, r5⟩ := hS2.cells
  obtain ⟨z0, z1, z2, z5⟩ := hS2.free
  rcases hbe with ⟨hbe, hcr⟩ | ⟨hbe, hcr⟩
  · rw [hbe]
    have HCl := Lib.hid (show clashB x (spanD x) cs = true from by unfold clashB; rw [hcr]; rfl)
    have hS3 := hS2.err 13
    clear hbe hcr hS2
    go_upto_region 3 with fail
    generalize w2.setCell ⟨w.heap.size + 1 + 1, 0, none⟩ (.int .i64 13) = w3 at *
    clear r0 r1 r2 r5 z0 z1 z2 z5
    obtain ⟨r0, r1, r2, r5⟩ := hS3.cells
    obtain ⟨z0, z1, z2, z5⟩ := hS3.free
    have HS3 := Lib.hid hS3
    clear hS3
    go_upto_region 4 with fail
    go_region
    have hS4 := HS3.out.back
    generalize ((((w3.setCell ⟨w.heap.size + 1, 0, none⟩ (.int .i64 0)).setCell ⟨w.heap.size + 1, 1, none⟩ (.slice none 0 0)).setCell ⟨w.heap.size + 1, 2, none⟩ (.slice none 0 0)).setCell ⟨w.heap.size + 1 + 1, 0, none⟩ (.int .i64 13)).drew = w4 at *
    clear r0 r1 r2 r5 z0 z1 z2 z5 HS3
    go_wp2_with fail
    obtain ⟨r0, r1, r2, r5⟩ := hS4.cells
    refine leaves_cons (f := 20) (args := #[.pointer (some ⟨w.heap.size + 1 + 1, 0, none⟩), .pointer (some ⟨w.heap.size + 1, 0, none⟩)]) (by simp) (by simp [go_sem]) ?_
    refine (newdef_clash (w.heap.size + 1 + 1) (w.heap.size + 1) .returning _ _ rfl r5 hS4.ebox).mono ?_
    rintro e u' w5 ⟨rfl, rfl, bx, kk⟩
    have hS5 := hS4.env bx kk
    clear r0 r1 r2 r5
    obtain ⟨r0, r1, r2, r5⟩ := hS5.cells
    simp [Leaves, settle, results, Tryz.results6, go_sem, r0, r1, r2, r5]
    exact .inl ⟨HCl.out, rfl, hS5.grew⟩
  · rw [hbe]
    have hS3 := hS2.err 0
    clear hbe hS2
    have HCr := Lib.hid hcr
    clear hcr
    go_upto_region 3 with fail
    generalize w2.setCell ⟨w.heap.size + 1 + 1, 0, none⟩ (.int .i64 0) = w3 at *
    clear r0 r1 r2 r5 z0 z1 z2 z5
    obtain ⟨r0, r1, r2, r5⟩ := hS3.cells
    have hdb := hS3.dbox
    have HBn := Lib.hid (HBo.out w3 hS3.grew)
    go_wp2_with (refine ldN 27 Tryz.underlying27 rfl (.tmp 2) w.heap.size (cells12 nm (.slice A n c) x) 27 info12 rfl rfl rfl hdb ?_)
    refine HBn.out.mono ?_
    rintro e w4 ⟨B, p, C, q2, rfl, m1, m2, k4⟩
    have hS4 := hS3.more k4
    have M1 := m1.base_le (base' := w.heap.size) hS3.grew.size
    have M2 := m2.base_le (base' := w.heap.size) hS3.grew.size
    clear r0 r1 r2 r5 hdb HBn HBo hS3 k4 m1 m2
    have hl1 := (boundE_len x (spanD x) cs)
    generalize hNN : spanD x = N at *
    have HN := Lib.hid hNN
    have HL1 := Lib.hid hl1
    clear hNN hl1
    have heb := hS4.ebox
    unfold venv
    go_upto_region 6 with (refine stN 32 (.tmp 4) (.tmp 22) (w.heap.size + 1) (cells3 (x 7) (.slice B N p) (.slice C N q2)) (cells3 0 (.slice none 0 0) (.slice none 0 0)) 32 (by kernel_rfl) rfl (by intro v hv; simp [cells3] at hv; rcases hv with rfl | rfl | rfl <;> rfl) rfl rfl rfl rfl heb ?_; intro w5 bx5 k5 d5)
    have hS5 := hS4.env bx5 k5
    have N1 := M1.keep k5 (fun i hi e => M1.ne_box hi heb (by decide) e)
    have N2 := M2.keep k5 (fun i hi e => M2.ne_box hi heb (by decide) e)
    clear heb hS4 M1 M2 bx5 k5 d5
    have HCx := Lib.hid (crossed_any (x 7) (x 7) (boundE x N cs).1 (boundE x N cs).2 B p (.slice C N q2) (.slice B N p) C q2 N w5 rfl rfl N1.rd N2.rd (by omega))
    unfold venv cells3 at HCx
    obtain ⟨r0, r1, r2, r5⟩ := hS5.cells
    have hcl : clashB x N cs = crossB (boundE x N cs).1 (boundE x N cs).2 := by unfold clashB; rw [HCr.out]; rfl
    rw [← hcl] at HCx
    clear hcl
    go_wp2_with fail
    refine HCx.out.mono ?_
    rintro e w6 ⟨rfl, k6⟩
    have hS6 := hS5.more k6
    have O1 := N1.grew k6
    have O2 := N2.grew k6
    clear r0 r1 r2 r5 hS5 N1 N2 HCx k6
    obtain ⟨r0, r1, r2, r5⟩ := hS6.cells
    obtain ⟨z0, z1, z2, z5⟩ := hS6.free
    cases hc : clashB x N cs
    · have HS6 := Lib.hid hS6
      have HO1 := Lib.hid (O1.backs hS6)
      have HO2 := Lib.hid (O2.backs hS6)
      have HC := Lib.hid hc
      clear hS6 O1 O2 hc
      go_upto_region 8 with fail
      go_region
      have hS7 := HS6.out.back
      have P1 := HO1.out
      have P2 := HO2.out
      generalize ((((w6.setCell ⟨w.heap.size + 1, 0, none⟩ (.int .i64 (x 7))).setCell ⟨w.heap.size + 1, 1, none⟩ (.slice B N p)).setCell ⟨w.heap.size + 1, 2, none⟩ (.slice C N q2)).setCell ⟨w.heap.size + 1 + 1, 0, none⟩ (.int .i64 0)).drew = w7 at *
      have HS7 := Lib.hid hS7
      have HP1 := Lib.hid P1
      have HP2 := Lib.hid P2
      clear r0 r1 r2 r5 z0 z1 z2 z5 HS6 hS7 HO1 HO2 P1 P2
      go_wp2_with fail
      obtain ⟨r0, r1, r2, r5⟩ := HS7.out.cells
      refine leaves_cons (f := 20) (args := #[.pointer (some ⟨w.heap.size + 1 + 1, 0, none⟩), .pointer (some ⟨w.heap.size + 1, 0, none⟩)]) (by simp) (by simp [go_sem]) ?_
      refine (newdef_idle (w.heap.size + 1 + 1) (w.heap.size + 1) .returning _ r5).mono ?_
      rintro e u' w8 ⟨rfl, rfl, rfl⟩
      simp [Leaves, settle, results, Tryz.results6, go_sem, r0, r1, r2, r5]
      exact .inr ⟨HC.out, B, p, C, q2, rfl, HP1.out, HP2.out, HS7.out.grew⟩
    · have HC := Lib.hid hc
      clear hc O1 O2
      have hS6' := hS6.err 13
      clear hS6
      go_upto_region 8 with fail
      generalize w6.setCell ⟨w.heap.size + 1 + 1, 0, none⟩ (.int .i64 13) = w7 at *
      clear r0 r1 r2 r5 z0 z1 z2 z5
      obtain ⟨r0, r1, r2, r5⟩ := hS6'.cells
      obtain ⟨z0, z1, z2, z5⟩ := hS6'.free
      have HS7 := Lib.hid hS6'
      clear hS6'
      go_region
      have hS8 := HS7.out.back
      generalize ((((w7.setCell ⟨w.heap.size + 1, 0, none⟩ (.int .i64 (x 7))).setCell ⟨w.heap.size + 1, 1, none⟩ (.slice B N p)).setCell ⟨w.heap.size + 1, 2, none⟩ (.slice C N q2)).setCell ⟨w.heap.size + 1 + 1, 0, none⟩ (.int .i64 13)).drew = w8 at *
      clear r0 r1 r2 r5 z0 z1 z2 z5 HS7
      have HS8 := Lib.hid hS8
      clear hS8
      go_wp2_with fail
      obtain ⟨r0, r1, r2, r5⟩ := HS8.out.cells
      refine leaves_cons (f := 20) (args := #[.pointer (some ⟨w.heap.size + 1 + 1, 0, none⟩), .pointer (some ⟨w.heap.size + 1, 0, none⟩)]) (by simp) (by simp [go_sem]) ?_
      refine (newdef_clash (w.heap.size + 1 + 1) (w.heap.size + 1) .returning _ _ rfl r5 HS8.out.ebox).mono ?_
      rintro e u' w9 ⟨rfl, rfl, bx, kk⟩
      have hS9 := HS8.out.env bx kk
      clear r0 r1 r2 r5
      obtain ⟨r0, r1, r2, r5⟩ := hS9.cells
      simp [Leaves, settle, results, Tryz.results6, go_sem, r0, r1, r2, r5]
      exact .inl ⟨HC.out, rfl, hS9.grew⟩
end Go.Proofs.YtgkmfblmkfclbaaGreatDoor
namespace Go.Proofs.YtgkmfblmkfclbaaGreatDoor
open Go.RowKit Pl

/- New where nothing clashes -/
def NewOk (x : Fin 10 → Int) (N : Nat) (E : EnvL) (w : World) (e : Ending) (w' : World) : Prop :=
  ∃ B p C q, e = .returned (.tuple #[venv (x 7) (.slice B N p) (.slice C N q), .int .i64 0]) ∧ Mine w' w.heap.size 3 (.slice B N p) (E.1.map vi) ∧ Mine w' w.heap.size 3 (.slice C N q) (E.2.map vi) ∧ Grew w w'
theorem new_ok (nm : ByteArray) (A : Option Addr) (n c : Nat) (ls : List (ByteArray × ByteArray)) (x : Fin 10 → Int) (v : Value) (cs : List Clm) (w : World) (hnm : Low nm) (hL : RdL w (.slice A n c) ls) (hls : GoodL ls) (hx : GoodD x) (hr : RdC w w.heap.size v cs) (hv : ∀ c ∈ cs, ValidC x c) (hl : cs.length ≤ 4096) (hc : clashB x (spanD x) cs = false) :
    Calls Tryz.prog 6 #[vdecl nm (.slice A n c) x, v] w (NewOk x (spanD x) (boundE x (spanD x) cs) w) :=
  (new_any nm A n c ls x v cs w hnm hL hls hx hr hv hl).mono fun e w' h => by
    rcases h with ⟨h, _⟩ | ⟨_, h⟩
    · rw [hc] at h; cases h
    · exact h
set_option maxHeartbeats 6400000 in
set_option maxRecDepth 100000 in
theorem cost_any (nm : ByteArray) (A : Option Addr) (n c : Nat) (ls : List (ByteArray × ByteArray)) (x : Fin 10 → Int) (v u : Value) (cs ds : List Clm) (w : World) (hnm : Low nm) (hL : RdL w (.slice A n c) ls) (hls : GoodL ls) (hx : GoodD x) (hr : RdC w w.heap.size v cs) (hv : ∀ c ∈ cs, ValidC x c) (hl : cs.length ≤ 4096) (hc : clashB x (spanD x) cs = false) (hr' : RdC w w.heap.size u ds) (hv' : ∀ c ∈ ds, ValidC x c) (hl' : ds.length ≤ 4096) (hc' : clashB x (spanD x) ds = false) :
    Calls Tryz.prog 74 #[vdecl nm (.slice A n c) x, v, u] w fun e w' => e = .returned (.tuple #[.int .i64 (growV (boundE x (spanD x) cs) (boundE x (spanD x) ds) (spanD x)), .int .i64 0]) ∧ Grew w w' := by
  have HN1 := Lib.hid (fun w' (g : Grew w w') => new_ok nm A n c ls x v cs w' hnm (hL.grew g) hls hx ((hr.grew (Nat.le_refl _) g).more g.size) hv hl hc)
  have HN2 := Lib.hid (fun w' (g : Grew w w') => new_ok nm A n c ls x u ds w' hnm (hL.grew g) hls hx ((hr'.grew (Nat.le_refl _) g).more g.size) hv' hl' hc')
  have hrdy := growth_ready hx hv hc hv' hc'
  have hs := spanD_le hx
  have hbd : Box (w.alloc (.cells (cells12 nm (.slice A n c) x).toArray 27)) w.heap.size 27 (cells12 nm (.slice A n c) x).toArray := Box.new _ _ _
  have hG0 := (Grew.refl w).alloc (.cells (cells12 nm (.slice A n c) x).toArray 27)
  obtain ⟨A1, m1, q1, rfl, -, -⟩ := hr.form
  obtain ⟨A2, m2, q2, rfl, -, -⟩ := hr'.form
  generalize hNN : spanD x = N at *
  have HR := Lib.hid hrdy
  obtain ⟨hs1, hs2⟩ := hs
  generalize hE1 : boundE x N cs = E1 at *
  generalize hE2 : boundE x N ds = E2 at *
  clear hr hr' hv hv' hc hc' hL hls hx hnm hrdy hNN hE1 hE2
  rw [vdecl_cells]
  rw [vdecl_cells] at HN1 HN2
  go_enter Tryz.func74, Tryz.ntmps74
  go_upto_region 1 with fail
  generalize w.alloc (.cells (cells12 nm (.slice A n c) x).toArray 27) = w1 at *
  go_wp2_with (refine ldN 27 Tryz.underlying27 rfl (.tmp 3) w.heap.size (cells12 nm (.slice A n c) x) 27 info12 rfl rfl rfl hbd ?_)
  refine (HN1.out w1 hG0).mono ?_
  rintro e w2 ⟨B, p, C, q, rfl, m1, m2, k2⟩
  have hb2 := hbd.grew k2
  have hG2 := hG0.trans k2
  clear hbd hG0 HN1 k2
  unfold venv cells3
  go_upto_region 4 with fail
  have ga := (Grew.refl w2).alloc (.cells #[.int .i64 (x 7), .slice B N p, .slice C N q] 32)
  have e3 : Box (w2.alloc (.cells #[.int .i64 (x 7), .slice B N p, .slice C N q] 32)) w2.heap.size 32 (cells3 (x 7) (.slice B N p) (.slice C N q)).toArray := Box.new _ _ _
  have hb3 := hb2.grew ga
  have hG3 := hG2.trans ga
  have r1 := m1.grew ga
  have r2 := m2.grew ga
  generalize w2.alloc (.cells #[.int .i64 (x 7), .slice B N p, .slice C N q] 32) = w3 at *
  generalize hgg : w2.heap.size = g8 at *
  clear ga hb2 hG2 m1 m2 hgg
  go_wp2_with (refine ldN 27 Tryz.underlying27 rfl (.tmp 3) w.heap.size (cells12 nm (.slice A n c) x) 27 info12 rfl rfl rfl hb3 ?_)
  refine (HN2.out w3 hG3).mono ?_
  rintro e w4 ⟨B2, p2, C2, q2', rfl, m3, m4, k4⟩
  have e4 := e3.grew k4
  have hG4 := hG3.trans k4
  have s1 := r1.grew k4
  have s2 := r2.grew k4
  clear e3 hb3 hG3 r1 r2 HN2 k4
  unfold venv cells3
  go_upto_region 7 with fail
  have ga := (Grew.refl w4).alloc (.cells #[.int .i64 (x 7), .slice B2 N p2, .slice C2 N q2'] 32)
  have f5 : Box (w4.alloc (.cells #[.int .i64 (x 7), .slice B2 N p2, .slice C2 N q2'] 32)) w4.heap.size 32 (cells3 (x 7) (.slice B2 N p2) (.slice C2 N q2')).toArray := Box.new _ _ _
  have e5 := e4.grew ga
  have hG5 := hG4.trans ga
  have t1 := s1.grew ga
  have t2 := s2.grew ga
  have t3 := m3.grew ga
  have t4 := m4.grew ga
  generalize w4.alloc (.cells #[.int .i64 (x 7), .slice B2 N p2, .slice C2 N q2'] 32) = w5 at *
  generalize hgg : w4.heap.size = g10 at *
  clear ga e4 hG4 s1 s2 m3 m4 hgg
  have HGr := Lib.hid (growth_any (x 7) E1.1 E1.2 E2.1 E2.2 B C B2 C2 p q p2 q2' N w5 t1.rd t2.rd t3.rd t4.rd hs1 (by omega) HR.out)
  have HG5 := Lib.hid hG5
  unfold venv at HGr
  clear t1 t2 t3 t4 hG5
  go_wp2_with (first | (refine ldN 32 Tryz.underlying32 rfl (.tmp 8) g8 (cells3 (x 7) (.slice B N p) (.slice C N q)) 32 (by kernel_rfl) rfl rfl rfl e5 ?_) | (refine ldN 32 Tryz.underlying32 rfl (.tmp 10) g10 (cells3 (x 7) (.slice B2 N p2) (.slice C2 N q2')) 32 (by kernel_rfl) rfl rfl rfl f5 ?_))
  refine HGr.out.mono ?_
  rintro e w6 ⟨rfl, k6⟩
  have HG6 := Lib.hid (HG5.out.trans k6)
  clear k6 e5 f5 HGr
  go_wp2_with fail
  exact bodyPost_ret (v := .tuple #[.int .i64 (growV E1 E2 N), .int .i64 0]) (by simp [results, Tryz.results74, go_sem]) rfl ⟨rfl, HG6.out⟩
end Go.Proofs.YtgkmfblmkfclbaaGreatDoor
