/- Compressions in plain words: bands that claims narrow; what a compression hands back. slices.Clone of a slice of integers. Envelope.length, Envelope.At. The contract of math/bits.Mul, laid at this program. Slice expressions s[:k], s[k:] of a slice of one-cell elements, as steps: the new slice reads as the part. -/
import Derived.Test.YtgkmfblmkfclbaaGreatDoorBlockSoundP26
import Derived.Test.YtgkmfblmkfclbaaGreatDoorBlockSoundP05
import Derived.Lib.SliceRun
import Derived.Test.YtgkmfblmkfclbaaGreatDoorBlockSoundP24
import Derived.Shelf.Bits.Mul64
import Derived.Test.YtgkmfblmkfclbaaGreatDoorProg
import Derived.Test.YtgkmfblmkfclbaaGreatDoorBlockSoundP01
import Derived.Deep.Slices
namespace Go.Proofs.YtgkmfblmkfclbaaGreatDoor
open Go.RowKit Pl

/- bands that contain an envelope, within the declared range -/
def BandOk (x : Fin 10 → Int) (N : Nat) (E e : EnvL) : Prop := Cont N E e ∧ ∀ j, j < N → x 3 ≤ e.1.getD j 0 ∧ e.2.getD j 0 ≤ x 4
theorem BandOk.take {x : Fin 10 → Int} {N : Nat} {E e : EnvL} {cs : List Clm} (h : BandOk x N E e) (hc : ∀ c ∈ cs, Implied (x 7) N E c ∧ ValidC x c) : BandOk x N E (takeIn (x 7) cs e) := by
  obtain ⟨h1, h2⟩ := h
  refine ⟨Cont.takeIn cs e h1 fun c hm => ?_, fun j hj => ?_⟩
  · obtain ⟨a, b⟩ := hc c hm
    have b1 := b.lo
    have b2 := b.hi2
    exact ⟨a, by omega, by omega⟩
  · obtain ⟨a, b⟩ := takeIn_mono (x 7) j cs e
    have := h2 j hj
    have := a (by rw [h1.len1]; exact hj)
    have := b (by rw [h1.len2]; exact hj)
    omega
theorem BandOk.start {x : Fin 10 → Int} (hx : GoodD x) {cs : List Clm} (hv : ∀ c ∈ cs, ValidC x c) (hc : clashB x (spanD x) cs = false) : BandOk x (spanD x) (boundE x (spanD x) cs) (List.replicate (spanD x) (x 3), List.replicate (spanD x) (x 4)) := by
  have hs := boundE_small hx hv hc
  have h1 := hx.lo
  have h2 := hx.hi
  have h3 := hx.hi2
  refine ⟨⟨by simp, by simp, fun j hj => ?_, fun j hj => ?_⟩, fun j hj => ?_⟩
  · have := hs j hj
    simp only [getD_rep hj]
    omega
  · have := hs j hj
    simp only [getD_rep hj]
    omega
  · simp only [getD_rep hj]
    omega
/- claims of runs of ticks, made up to a tick -/
def RunsI (x : Fin 10 → Int) (j : Nat) (rs : List Clm) : Prop := rs.length ≤ j ∧ ∀ c ∈ rs, ValidC x c ∧ c.2.1 < x 7 + (j : Int)
theorem RunsI.nil (x : Fin 10 → Int) : RunsI x 0 [] := ⟨Nat.le_refl _, by simp⟩
theorem RunsI.more {x : Fin 10 → Int} (hx : GoodD x) {j : Nat} {rs : List Clm} {c : Clm} (h : RunsI x j (rs ++ [c])) (hj : j < spanD x) : RunsI x (j + 1) (rs ++ [(c.1, c.2.1 + 1, c.2.2)]) := by
  obtain ⟨h1, h2⟩ := h
  have hs := spanD_eq hx
  refine ⟨by simp at h1 ⊢; omega, fun d hd => ?_⟩
  rcases List.mem_append.1 hd with hd | hd
  · obtain ⟨a, b⟩ := h2 d (List.mem_append_left _ hd)
    exact ⟨a, by push_cast; omega⟩
  · obtain rfl := List.mem_singleton.1 hd
    obtain ⟨⟨v1, v2, v3, v4, v5, v6⟩, b⟩ := h2 c (by simp)
    exact ⟨⟨v1, by simp only; omega, by simp only; omega, v4, v5, v6⟩, by simp only; push_cast; omega⟩
theorem RunsI.new {x : Fin 10 → Int} (hx : GoodD x) {j : Nat} {rs : List Clm} (h : RunsI x j rs) (hj : j < spanD x) {lo hi : Int} (h3 : x 3 ≤ lo) (hle : lo ≤ hi) (h4 : hi ≤ x 4) : RunsI x (j + 1) (rs ++ [(x 7 + (j : Int), x 7 + (j : Int), lo, hi)]) := by
  obtain ⟨h1, h2⟩ := h
  have hs := spanD_eq hx
  have hx3 := hx.lo
  have hx4 := hx.hi2
  refine ⟨by simp; omega, fun d hd => ?_⟩
  rcases List.mem_append.1 hd with hd | hd
  · obtain ⟨a, b⟩ := h2 d hd
    exact ⟨a, by push_cast; omega⟩
  · obtain rfl := List.mem_singleton.1 hd
    refine ⟨⟨?_, ?_, ?_, ?_, ?_, ?_⟩, ?_⟩ <;> simp only <;> omega
/- what a compression hands back: claims that the old ones imply, with the growth of their envelope -/
def CompPost (x : Fin 10 → Int) (N : Nat) (cs : List Clm) (w : World) (e : Ending) (w' : World) : Prop :=
  ∃ (A : Option Addr) (m cap : Nat) (ds : List Clm) (gv : Int), e = .returned (.tuple #[.slice A m cap, .int .i64 gv, .int .i64 0]) ∧ gv = growV (boundE x N cs) (boundE x N ds) N ∧ MineC w' w.heap.size (.slice A m cap) ds ∧ (∀ c ∈ ds, Implied (x 7) N (boundE x N cs) c ∧ ValidC x c) ∧ ds.length ≤ cs.length + N ∧ Grew w w'
theorem CompPost.from_ {x : Fin 10 → Int} {N : Nat} {cs : List Clm} {w w1 : World} {e : Ending} {w' : World} (h : CompPost x N cs w1 e w') (g : Grew w w1) : CompPost x N cs w e w' := by
  obtain ⟨A, m, cap, ds, gv, h1, h0, h2, h3, h4, h5⟩ := h
  exact ⟨A, m, cap, ds, gv, h1, h0, h2.base_le g.size, h3, h4, g.trans h5⟩
theorem CompPost.form {x : Fin 10 → Int} {N : Nat} {cs : List Clm} {w : World} {e : Ending} {w' : World} (h : CompPost x N cs w e w') : ∃ (A : Option Addr) (m cap : Nat) (gv : Int), e = .returned (.tuple #[.slice A m cap, .int .i64 gv, .int .i64 0]) := by
  obtain ⟨A, m, cap, ds, gv, h1, -⟩ := h
  exact ⟨A, m, cap, gv, h1⟩
/- the old claims are implied -/
theorem old_implied {x : Fin 10 → Int} (hx : GoodD x) {cs : List Clm} (hv : ∀ c ∈ cs, ValidC x c) (hc : clashB x (spanD x) cs = false) : ∀ c ∈ cs, Implied (x 7) (spanD x) (boundE x (spanD x) cs) c ∧ ValidC x c :=
  fun c hm => ⟨(boundE_good hx hv hc).2.1 c (List.mem_cons_of_mem _ hm), hv c hm⟩
/- what growth_any asks -/
theorem growth_ready {x : Fin 10 → Int} (hx : GoodD x) {cs ds : List Clm} (hv : ∀ c ∈ cs, ValidC x c) (hc : clashB x (spanD x) cs = false) (hv' : ∀ c ∈ ds, ValidC x c) (hc' : clashB x (spanD x) ds = false) : ∀ j, j < spanD x →
    (-1099511627776 ≤ (boundE x (spanD x) cs).1.getD j 0 ∧ (boundE x (spanD x) cs).1.getD j 0 ≤ 1099511627776) ∧ (-1099511627776 ≤ (boundE x (spanD x) cs).2.getD j 0 ∧ (boundE x (spanD x) cs).2.getD j 0 ≤ 1099511627776) ∧
    (-1099511627776 ≤ (boundE x (spanD x) ds).1.getD j 0 ∧ (boundE x (spanD x) ds).1.getD j 0 ≤ 1099511627776) ∧ (-1099511627776 ≤ (boundE x (spanD x) ds).2.getD j 0 ∧ (boundE x (spanD x) ds).2.getD j 0 ≤ 1099511627776) := fun j hj => by
  have a := boundE_small hx hv hc j hj
  have b := boundE_small hx hv' hc' j hj
  have h1 := hx.lo
  have h3 := hx.hi2
  omega
/- the cost is small -/
theorem growth_bd {x : Fin 10 → Int} (hx : GoodD x) {cs ds : List Clm} (hv : ∀ c ∈ cs, ValidC x c) (hc : clashB x (spanD x) cs = false) (hd : ∀ c ∈ ds, Implied (x 7) (spanD x) (boundE x (spanD x) cs) c ∧ ValidC x c) :
    0 ≤ growV (boundE x (spanD x) cs) (boundE x (spanD x) ds) (spanD x) ∧ growV (boundE x (spanD x) cs) (boundE x (spanD x) ds) (spanD x) ≤ 4398046511104 := by
  have hn := (spanD_le hx).1
  obtain ⟨j, hj, e⟩ := growV_some (boundE x (spanD x) cs) (boundE x (spanD x) ds) (spanD x) (by omega)
  have hcl := clash_none hx hv hc hd
  have h := growth_small (boundE_cont hx hv hc hd) (boundE_small hx hv hc) (boundE_small hx (fun c hm => (hd c hm).2) hcl) hj
  have h1 := hx.lo
  have h3 := hx.hi2
  rw [e]
  unfold dG
  omega
end Go.Proofs.YtgkmfblmkfclbaaGreatDoor
namespace Go.Proofs.YtgkmfblmkfclbaaGreatDoor
open Go.RowKit Pl

theorem Mine.empty_ (w : World) (e : TypeId) : Mine (w.alloc (.cells #[] e)) w.heap.size e (.slice (some ⟨w.heap.size, 0, none⟩) 0 0) [] :=
  Mine.mk' (cur := #[]) (xs := []) (Nat.le_refl _) (Box.new w e #[]) (Nat.le_refl _) (by unfold maxLen; omega) rfl rfl
set_option maxHeartbeats 800000 in
set_option maxRecDepth 100000 in
theorem iclone_any (v : Value) (xs : List Int) (w : World) (h : Rd w w.heap.size v (xs.map vi)) (hs : xs.length ≤ 1000000) :
    Calls Tryz.prog 92 #[v] w fun e w' => ∃ v', e = .returned v' ∧ Mine w' w.heap.size 3 v' (xs.map vi) ∧ Grew w w' := by
  have hnil := fun (W : World) (a : Option Addr) (n c n' c' : Nat) => Lib.run_eql_slice_nil (P := Tryz.prog) W 22 3 a n c n' c' Tryz.underlying22
  have h1 := h.grew (Nat.le_refl _) ((Grew.refl w).alloc (.cells #[] 3))
  obtain ⟨A, n, c, rfl, hn, hc⟩ := h.form
  rcases A with _ | ad
  · have hx := h.nil_of
    rw [List.map_eq_nil_iff] at hx
    subst hx
    clear h1 hn
    go_enter Tryz.func92, Tryz.ntmps92
    go_wp2_with fail
    go_ret
    exact ⟨_, rfl, Mine.nil _ _ _, Grew.refl _⟩
  · clear hn
    go_enter Tryz.func92, Tryz.ntmps92
    go_wp2_with (at_builtin; refine app_any slInt rfl (.tmp 5) (.tmp 6) rfl rfl (Mine.empty_ w _) rfl h1 (one_vi xs) (by simp; omega) (by simp) ?k)
    case k =>
    intro A m cap w1 hm hown hk hr
    go_wp2
    go_ret
    refine ⟨_, rfl, by simpa using hown, ?_⟩
    exact ((Keeps.refl _ w).alloc _).then_ hk (fun i hi e => by
      have : w.heap.size = i := by simpa [Value.ownBlock] using e
      omega)
end Go.Proofs.YtgkmfblmkfclbaaGreatDoor
namespace Go.Proofs.YtgkmfblmkfclbaaGreatDoor
open Go.RowKit Pl

set_option maxHeartbeats 1600000 in
theorem elen_any (f : Int) (A B : Option Addr) (n c d : Nat) (w : World) (_ : n ≤ 1000000) :
    Calls Tryz.prog 79 #[venv f (.slice A n c) (.slice B n d)] w fun e w' => e = .returned (.int .i64 (n : Nat)) ∧ Grew w w' := by
  have HB := Lib.hid (Box.new w 32 (cells3 f (.slice A n c) (.slice B n d)).toArray)
  have HG := Lib.hid ((Grew.refl w).alloc (.cells (cells3 f (.slice A n c) (.slice B n d)).toArray 32))
  unfold venv
  go_enter Tryz.func79, Tryz.ntmps79
  go_upto_region 1 with fail
  generalize w.alloc (.cells (cells3 f (.slice A n c) (.slice B n d)).toArray 32) = w1 at *
  have c1 : w1.cell? ⟨w.heap.size, 1, none⟩ = some (.slice A n c) := HB.out.cell 1
  have c2 : w1.cell? ⟨w.heap.size, 2, none⟩ = some (.slice B n d) := HB.out.cell 2
  go_wp2_with fail
  go_ret
  exact ⟨by first | rfl | simp, HG.out⟩
/- the bounds at a tick, or none -/
def AtPost (l h : List Int) (n : Nat) (i : Int) (w : World) (e : Ending) (w' : World) : Prop :=
  ((i < 0 ∨ (n : Int) ≤ i) ∧ e = .returned (.tuple #[.int .i64 0, .int .i64 0, .int .i64 9]) ∧ Grew w w') ∨
  (0 ≤ i ∧ i < n ∧ e = .returned (.tuple #[.int .i64 (l.getD i.toNat 0), .int .i64 (h.getD i.toNat 0), .int .i64 0]) ∧ Grew w w')
set_option maxHeartbeats 3200000 in
set_option maxRecDepth 100000 in
theorem eat_any (f t : Int) (l h : List Int) (A B : Option Addr) (n c d : Nat) (w : World) (hl : Rd w w.heap.size (.slice A n c) (l.map vi)) (hh : Rd w w.heap.size (.slice B n d) (h.map vi)) (hn : n ≤ 1000000) (hf : -1099511627776 ≤ f ∧ f ≤ 1099511627776) (ht : -1099511627776 ≤ t ∧ t ≤ 1099511627776) :
    Calls Tryz.prog 59 #[venv f (.slice A n c) (.slice B n d), .int .i64 t] w (AtPost l h n (t - f) w) := by
  have hnl : n = l.length := by obtain ⟨_, _, _, e, h, _⟩ := hl.form; injection e with _ e; subst e; simpa using h
  have hnh : n = h.length := by obtain ⟨_, _, _, e, h, _⟩ := hh.form; injection e with _ e; subst e; simpa using h
  have HNL := Lib.hid hnl
  have HNH := Lib.hid hnh
  have HL := Lib.hid hl
  have HH := Lib.hid hh
  have hb := Box.new w 32 (cells3 f (.slice A n c) (.slice B n d)).toArray
  have hG := (Grew.refl w).alloc (.cells (cells3 f (.slice A n c) (.slice B n d)).toArray 32)
  have HLn := Lib.hid (fun w' => elen_any f A B n c d w' hn)
  obtain ⟨f1, f2⟩ := hf
  obtain ⟨t1, t2⟩ := ht
  clear hl hh hnl hnh
  unfold venv at HLn ⊢
  go_enter Tryz.func59, Tryz.ntmps59
  go_upto_region 1 with fail
  generalize w.alloc (.cells (cells3 f (.slice A n c) (.slice B n d)).toArray 32) = w1 at *
  have c0 : w1.cell? ⟨w.heap.size, 0, none⟩ = some (.int .i64 f) := hb.cell 0
  have HG := Lib.hid hG
  by_cases hi : t - f < 0
  · have ti : decide (t - f < 0) = true := by simpa using hi
    have HI := Lib.hid hi
    clear hi hb hG
    go_wp2_with fail
    exact bodyPost_ret (v := .tuple #[.int .i64 0, .int .i64 0, .int .i64 9]) (by simp [results, Tryz.results59, go_sem]) rfl (.inl ⟨.inl HI.out, rfl, HG.out⟩)
  · have ti : decide (t - f < 0) = false := by simpa using hi
    clear hG
    have c1 : w1.cell? ⟨w.heap.size, 1, none⟩ = some (.slice A n c) := hb.cell 1
    have c2 : w1.cell? ⟨w.heap.size, 2, none⟩ = some (.slice B n d) := hb.cell 2
    have HLn2 := HLn
    unfold cells3 at HLn2
    go_wp2_with fail
    refine (HLn2.out w1).mono ?_
    rintro e w2 ⟨rfl, k2⟩
    have hb2 := hb.grew k2
    have hG2 := HG.out.trans k2
    have HG2 := Lib.hid hG2
    by_cases hj : (n : Int) ≤ t - f
    · have tj : decide ((n : Int) ≤ t - f) = true := by simpa using hj
      have HJ := Lib.hid hj
      clear hj hb k2 hb2 hG2 hi c0 c1 c2
      go_wp2_with fail
      exact bodyPost_ret (v := .tuple #[.int .i64 0, .int .i64 0, .int .i64 9]) (by simp [results, Tryz.results59, go_sem]) rfl (.inl ⟨.inr HJ.out, rfl, HG2.out⟩)
    · have tj : decide ((n : Int) ≤ t - f) = false := by simpa using hj
      obtain ⟨j, hjj⟩ : ∃ j : Nat, t - f = (j : Int) := ⟨(t - f).toNat, by omega⟩
      have hjn : j < n := by omega
      obtain ⟨a1, rfl, _, e1⟩ := (HL.out.grew (Nat.le_refl _) HG2.out).int_at (j := j) (by rw [← HNL.out]; exact hjn)
      obtain ⟨a2, rfl, _, e2⟩ := (HH.out.grew (Nat.le_refl _) HG2.out).int_at (j := j) (by rw [← HNH.out]; exact hjn)
      clear c1 c2
      have c1 : w2.cell? ⟨w.heap.size, 1, none⟩ = some (.slice (some a1) n c) := hb2.cell 1
      have c2 : w2.cell? ⟨w.heap.size, 2, none⟩ = some (.slice (some a2) n d) := hb2.cell 2
      have i1 : (0 : Int) ≤ (j : Int) := by omega
      have i2 : (j : Int) < (n : Int) := by omega
      have HR := Lib.hid (fun w' (g : Grew w w') => show AtPost l h n (t - f) w (.returned (.tuple #[.int .i64 (l.getD j 0), .int .i64 (h.getD j 0), .int .i64 0])) w' from .inr ⟨by omega, by omega, by rw [hjj]; rfl, g⟩)
      clear c0 hi hj hb k2 hb2 hG2
      go_wp2_with fail
      rw [hjj]
      have HJJ := Lib.hid hjj
      clear hjj ti
      go_quiet (fail)
      go_wp2_with fail
      exact bodyPost_ret (v := .tuple #[.int .i64 (l.getD j 0), .int .i64 (h.getD j 0), .int .i64 0]) (by simp [results, Tryz.results59, go_sem]) rfl (HR.out _ (Keeps.drewN HG2.out _))
end Go.Proofs.YtgkmfblmkfclbaaGreatDoor
namespace Go.Proofs.YtgkmfblmkfclbaaGreatDoor
open Go.Shelf
def mulA_ren : Go.Shelf.Ren := ⟨fun | 212 => 70 | 263 => 89 | 264 => 90 | n => n, fun | 46 => 92 | 51 => 145 | 146 => 146 | 53 => 65 | 148 => 148 | n => n, fun | n => n⟩
theorem mulA : Go.Proofs.Lays.n212 Tryz.prog mulA_ren := {
  mixed := by kernel_rfl
  f212 := Tryz.func70.trans (congrArg some (by kernel_rfl))
  f263 := Tryz.func89.trans (congrArg some (by kernel_rfl))
  f264 := Tryz.func90.trans (congrArg some (by kernel_rfl))
  t46 := Tryz.underlying92
  a46 := Tryz.isAgg92
  z46 := Tryz.sizeOf92
  v46 := Tryz.zeroValue92
  t51 := Tryz.underlying145
  a51 := Tryz.isAgg145
  z51 := Tryz.sizeOf145
  v51 := Tryz.zeroValue145
  t53 := Tryz.underlying65
  a53 := Tryz.isAgg65
  z53 := Tryz.sizeOf65
  v53 := Tryz.zeroValue65
  t146 := Tryz.underlying146
  a146 := Tryz.isAgg146
  z146 := Tryz.sizeOf146
  v146 := Tryz.zeroValue146
  t148 := Tryz.underlying148
  a148 := Tryz.isAgg148
  z148 := Tryz.sizeOf148
  v148 := Tryz.zeroValue148 }
end Go.Proofs.YtgkmfblmkfclbaaGreatDoor
namespace Go.Proofs.YtgkmfblmkfclbaaGreatDoor
open Go.RowKit

section
variable {P : Program} {t e : TypeId} {bytes : Nat} {z : Value} {w : World}
theorem run_from (T : SlT P t e bytes z) {A : Option Addr} {n c k : Nat} (hk : k ≤ n) :
    (Instr.sliceAt t (.slice A n c) (some (.int .i64 (k : Nat))) none none).run P w = .ok (.slice (if c = k then A else A.map (·.add k)) (n - k) (c - k)) w := by
  obtain ⟨i, hi, hz, hs, hby⟩ := info_parts T.info
  simp [Instr.sliceAt, Instr.slice, run_underlying T.under, Instr.sliceBounds, Instr.sliceBound, asIntOf, sizeOf, typeInfo, hi, hs]
  omega
theorem run_to (T : SlT P t e bytes z) {A : Option Addr} {n c k : Nat} (hk : k ≤ n) (hc : n ≤ c) :
    (Instr.sliceAt t (.slice A n c) none (some (.int .i64 (k : Nat))) none).run P w = .ok (.slice (if c = 0 then A else A.map (·.add 0)) k c) w := by
  obtain ⟨i, hi, hz, hs, hby⟩ := info_parts T.info
  simp [Instr.sliceAt, Instr.slice, run_underlying T.under, Instr.sliceBounds, Instr.sliceBound, asIntOf, sizeOf, typeInfo, hi]
  omega
variable {B : Nat} {xs : List Value} {ops : Array Oper} {rest : List Oper} {o : Oper} {a : Act} {Q : Exit → Act → World → Prop}
theorem Rd.cut {A : Option Addr} {n c : Nat} (h : Rd w B (.slice A n c) xs) {k : Nat} (hk : k ≤ n) : Rd w B (.slice (if c = k then A else A.map (·.add k)) (n - k) (c - k)) (xs.drop k) := by
  obtain ⟨A0, c', hv, hc, hx⟩ := h
  injection hv with e1 e2 e3
  subst e1 e2 e3
  refine ⟨_, c - k, by rw [List.length_drop], by rw [List.length_drop]; omega, fun h0 => ?_⟩
  rw [List.length_drop] at h0
  obtain ⟨ad', rfl, hb, hcell⟩ := hx (by omega)
  rw [if_neg (by omega)]
  refine ⟨_, rfl, by rw [block_add]; exact hb, fun j u hu => ?_⟩
  rw [Go.Deep.add_add]
  exact hcell (k + j) u (by rw [List.getElem?_drop] at hu; exact hu)
theorem add_zero_ (ad : Addr) : ad.add 0 = ad := by
  cases ad
  unfold Addr.add
  split <;> simp_all
theorem Rd.upto {A : Option Addr} {n c : Nat} (h : Rd w B (.slice A n c) xs) {k : Nat} (hk : k ≤ n) : Rd w B (.slice (if c = 0 then A else A.map (·.add 0)) k c) (xs.take k) := by
  have hA : (if c = 0 then A else A.map (·.add 0)) = A := by
    split
    · rfl
    · cases A with
      | none => rfl
      | some ad => simp [add_zero_]
  rw [hA]
  obtain ⟨A', c', hv, hc, hx⟩ := h
  injection hv with e1 e2 e3
  subst e1 e2 e3
  have hl : (xs.take k).length = k := by rw [List.length_take]; omega
  refine ⟨A, c, by rw [hl], by omega, fun h0 => ?_⟩
  obtain ⟨ad, e, hb, hcell⟩ := hx (by omega)
  refine ⟨ad, e, hb, fun j u hu => hcell j u ?_⟩
  rw [List.getElem?_take] at hu
  split at hu
  · exact hu
  · cases hu
/- s[k:] -/
theorem sl_from (T : SlT P t e bytes z) (hgd : o.guard = none) (x y : Operand) (ho : o.op = .slice t x (some y) none none) {A : Option Addr} {n c : Nat} (hx : a.eval x = .slice A n c) {k : Nat} (hy : a.eval y = .int .i64 (k : Nat)) (hk : k ≤ n)
    (hr : Rd w B (.slice A n c) xs)
    (h : ∀ A' m c', m = n - k → Rd w B (.slice A' m c') (xs.drop k) → wpList P ops Q rest (a.put o.dst (.slice A' m c')) w) : wpList P ops Q (o :: rest) a w := by
  refine wpList_plain hgd fun K hK => ?_
  unfold Oper.wp execOp
  simp only [ho, hx, hy, Option.map_some, Option.map_none]
  have := run_from (w := w) T (A := A) (c := c) hk
  simp only [this, Sem.run_bind, Sem.run_pure, Result.andThen_ok]
  exact hK _ _ (h _ _ _ rfl (hr.cut hk))
/- s[:k] -/
theorem sl_to (T : SlT P t e bytes z) (hgd : o.guard = none) (x y : Operand) (ho : o.op = .slice t x none (some y) none) {A : Option Addr} {n c : Nat} (hx : a.eval x = .slice A n c) {k : Nat} (hy : a.eval y = .int .i64 (k : Nat)) (hk : k ≤ n)
    (hr : Rd w B (.slice A n c) xs)
    (h : ∀ A' c', Rd w B (.slice A' k c') (xs.take k) → wpList P ops Q rest (a.put o.dst (.slice A' k c')) w) : wpList P ops Q (o :: rest) a w := by
  refine wpList_plain hgd fun K hK => ?_
  unfold Oper.wp execOp
  simp only [ho, hx, hy, Option.map_some, Option.map_none]
  obtain ⟨A', n', c', hv, hc, hx'⟩ := hr.form
  injection hv with e1 e2 e3
  subst e1 e2 e3
  have := run_to (w := w) T (A := A) (c := c) hk (by omega)
  simp only [this, Sem.run_bind, Sem.run_pure, Result.andThen_ok]
  exact hK _ _ (h _ _ (hr.upto hk))
end
end Go.Proofs.YtgkmfblmkfclbaaGreatDoor
