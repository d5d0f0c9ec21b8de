/- lossy.thinning.keep: two claims or more. -/
import Derived.Test.YtgkmfblmkfclbaaGreatDoorBlockSoundP38
namespace Go.Proofs.YtgkmfblmkfclbaaGreatDoor
open Go.RowKit Pl

theorem exec_fromC {o : Oper} {a : Act} {w : World} (x y : Operand) (ho : o.op = .slice 29 x (some y) none none) {A : Option Addr} {n c : Nat} (hx : a.eval x = .slice A n c) {k : Nat} (hy : a.eval y = .int .i64 (k : Nat)) (hk : k ≤ n) :
    (execOp a.eval o).run Tryz.prog w = .ok (.value (.slice (if c = k then A else A.map (·.add (k * 4))) (n - k) (c - k))) w := by
  unfold execOp
  simp only [ho, hx, hy, Option.map_some, Option.map_none]
  have := run_fromC (w := w) (A := A) (c := c) hk
  simp only [this, Sem.run_bind, Sem.run_pure, Result.andThen_ok]
theorem exec_uptoC {o : Oper} {a : Act} {w : World} (x y z : Operand) (ho : o.op = .slice 29 x none (some y) (some z)) {A : Option Addr} {n c : Nat} (hx : a.eval x = .slice A n c) {k : Nat} (hy : a.eval y = .int .i64 (k : Nat)) (hz : a.eval z = .int .i64 (k : Nat)) (hk : k ≤ c) :
    (execOp a.eval o).run Tryz.prog w = .ok (.value (.slice (if k = 0 then A else A.map (·.add 0)) k k)) w := by
  unfold execOp
  simp only [ho, hx, hy, hz, Option.map_some, Option.map_none]
  have := run_uptoC (w := w) (A := A) (n := n) (c := c) hk
  simp only [this, Sem.run_bind, Sem.run_pure, Result.andThen_ok]
/- two claims or more: the halves by what is known of fewer -/
def KeepIH (gt : Nat) (x : Fin 10 → Int) (E : EnvL) (k : Nat) (w : World) : Prop :=
  ∀ (w' : World) (_ : Grew w w') (lo hi : List Int) (A1 B1 : Option Addr) (c1 d1 : Nat) (_ : Rd w' w'.heap.size (.slice A1 (spanD x) c1) (lo.map vi)) (_ : Rd w' w'.heap.size (.slice B1 (spanD x) d1) (hi.map vi)) (_ : BandOk x (spanD x) E (lo, hi))
    (Av : Option Addr) (m cap : Nat) (cs : List Clm) (_ : RdC w' w'.heap.size (.slice Av m cap) cs) (_ : ∀ c ∈ cs, Implied (x 7) (spanD x) E c ∧ ValidC x c) (_ : m ≤ k),
    Calls Tryz.prog 57 #[.pointer (some ⟨gt, 0, none⟩), venv (x 7) (.slice A1 (spanD x) c1) (.slice B1 (spanD x) d1), .slice Av m cap] w' (KeepPost cs w')
set_option maxHeartbeats 12800000 in
set_option maxRecDepth 100000 in
theorem keep_many (gt : Nat) (x : Fin 10 → Int) (hx : GoodD x) (E : EnvL) (k : Nat) (w : World) (hIH : KeepIH gt x E k w) (lo hi : List Int) (A1 B1 : Option Addr) (c1 d1 : Nat) (hlo : Rd w w.heap.size (.slice A1 (spanD x) c1) (lo.map vi)) (hhi : Rd w w.heap.size (.slice B1 (spanD x) d1) (hi.map vi)) (hb : BandOk x (spanD x) E (lo, hi))
    (Av : Option Addr) (m cap : Nat) (cs : List Clm) (hr : RdC w w.heap.size (.slice Av m cap) cs) (hcs : ∀ c ∈ cs, Implied (x 7) (spanD x) E c ∧ ValidC x c) (hm : m ≤ k + 1) (hm2 : 2 ≤ m) (hm4 : m ≤ 4096) :
    Calls Tryz.prog 57 #[.pointer (some ⟨gt, 0, none⟩), venv (x 7) (.slice A1 (spanD x) c1) (.slice B1 (spanD x) d1), .slice Av m cap] w (KeepPost cs w) := by
  have hml : m = cs.length := by obtain ⟨_, _, _, e, h, _⟩ := hr.form; injection e with _ e; omega
  have hmc : m ≤ cap := by obtain ⟨_, _, _, e, h, h2⟩ := hr.form; injection e with _ e e2; omega
  obtain ⟨h, hh⟩ : ∃ h : Nat, h = m / 2 := ⟨_, rfl⟩
  have hhm : h ≤ m := by omega
  have hhc : h ≤ cap := by omega
  have hk1 : h ≤ k := by omega
  have hk2 : m - h ≤ k := by omega
  have HW := Lib.hid (fun (w' : World) (g : Grew w w') (v : Value) (ds : List Clm) (h1 : RdC w' w'.heap.size v ds) (h2 : ∀ c ∈ ds, ValidC x c) (h3 : ds.length ≤ 4096) => with_any x hx lo hi A1 B1 (spanD x) c1 d1 v ds w' rfl ((hlo.grew (Nat.le_refl _) g).more g.size) ((hhi.grew (Nat.le_refl _) g).more g.size) h1 h2 h3)
  have HBk := Lib.hid (fun (ds : List Clm) (h : ∀ c ∈ ds, Implied (x 7) (spanD x) E c ∧ ValidC x c) => hb.take h)
  have HI := Lib.hid hIH
  have HM := Lib.hid hml
  have HCS := Lib.hid hcs
  have HUp := Lib.hid (fun (w' : World) (g : Grew w w') => ((hr.grew (Nat.le_refl _) g).more g.size).upto hhm)
  have HCut := Lib.hid (fun (w' : World) (g : Grew w w') => ((hr.grew (Nat.le_refl _) g).more g.size).cut hhm)
  have q1 : (m : Int) / 2 = (h : Int) := by omega
  have t0 : ((m : Int) == 0) = false := by rw [beq_eq_false_iff_ne]; omega
  have t1 : ((m : Int) == 1) = false := by rw [beq_eq_false_iff_ne]; omega
  have hbx := Box.new w 104 (cells3 (x 7) (.slice A1 (spanD x) c1) (.slice B1 (spanD x) d1)).toArray
  have hG0 := (Grew.refl w).alloc (.cells (cells3 (x 7) (.slice A1 (spanD x) c1) (.slice B1 (spanD x) d1)).toArray 104)
  generalize hNN : spanD x = N at *
  have HNN := Lib.hid hNN
  clear hIH hlo hhi hb hr hcs hml hx hh hNN
  unfold venv
  go_enter Tryz.func57, Tryz.ntmps57
  go_upto_region 13 with fail
  generalize w.alloc (.cells (cells3 (x 7) (.slice A1 N c1) (.slice B1 N d1)).toArray 104) = w1 at *
  clear q1 t0 t1
  have hA : w1.drew.rangeAt w.heap.size 0 (cells3 (x 7) (.slice A1 N c1) (.slice B1 N d1)) := hbx.rangeN 0 _ (by simp)
  refine late_region [(5, fun w' => w'.rangeAt w.heap.size 0 (cells3 (x 7) (.slice A1 N c1) (.slice B1 N d1)))] (by kernel_rfl) (by intro pp hp; obtain rfl := List.mem_singleton.1 hp; exact hA) ?_
  intro hcl hkn
  refine' take_pure (i := 0) (v := _) rfl (by kernel_rfl) (by kernel_rfl) (by kernel_rfl) hcl hkn (by rfl) (fun _ _ _ h => h) rfl ?_ ?_
  rotate_left
  · intro w'; go_simp; try with_reducible rfl
  clear hcl hkn
  intro hcl hkn
  try simp only [List.getElem_toArray, List.getElem_cons_zero, Act.put, List.setIfInBounds_toArray, List.set_cons_zero, List.set_cons_succ]
  refine take_row 5 _ (i := 1) rfl (by kernel_rfl) (by kernel_rfl) (by kernel_rfl) hcl hkn (by rfl) 0 rfl (by kernel_rfl) 104 (.tmp 4) rfl w.heap.size 0 rfl (cells3 (x 7) (.slice A1 N c1) (.slice B1 N d1)) _ (fun w h => h) Tryz.underlying104 rfl (by kernel_rfl) (fun _ _ _ h => h) rfl ?_
  clear hcl hkn
  intro hcl hkn
  try simp only [List.getElem_toArray, List.getElem_cons_zero, List.getElem_cons_succ, Act.put, List.setIfInBounds_toArray, List.set_cons_zero, List.set_cons_succ]
  refine' take_pure (i := 2) (v := _) rfl (by kernel_rfl) (by kernel_rfl) (by kernel_rfl) hcl hkn (by rfl) (fun _ _ _ h => h) rfl ?_ ?_
  rotate_left
  · intro w'; go_simp; try with_reducible rfl
  clear hcl hkn
  intro hcl hkn
  try simp only [List.getElem_toArray, List.getElem_cons_zero, List.getElem_cons_succ, Act.put, List.setIfInBounds_toArray, List.set_cons_zero, List.set_cons_succ]
  refine' take_pure (i := 3) (v := _) rfl (by kernel_rfl) (by kernel_rfl) (by kernel_rfl) hcl hkn (by rfl) (fun _ _ _ h => h) rfl ?_ ?_
  rotate_left
  · intro w'; go_simp; try with_reducible rfl
  clear hcl hkn
  intro hcl hkn
  try simp only [List.getElem_toArray, List.getElem_cons_zero, List.getElem_cons_succ, Act.put, List.setIfInBounds_toArray, List.set_cons_zero, List.set_cons_succ]
  refine take_pure (i := 4) rfl (by kernel_rfl) (by kernel_rfl) (by kernel_rfl) hcl hkn (by rfl) (fun _ _ _ h => h) rfl (fun w' => exec_fromC (.tmp 66) (.tmp 67) rfl rfl rfl hhm) ?_
  clear hcl hkn
  intro hcl hkn
  try simp only [List.getElem_toArray, List.getElem_cons_zero, List.getElem_cons_succ, Act.put, List.setIfInBounds_toArray, List.set_cons_zero, List.set_cons_succ]
  refine' take_pure (i := 6) (v := _) rfl (by kernel_rfl) (by kernel_rfl) (by kernel_rfl) hcl hkn (by rfl) (fun _ _ _ h => h) rfl ?_ ?_
  rotate_left
  · intro w'; go_simp; try with_reducible rfl
  clear hcl hkn
  intro hcl hkn
  try simp only [List.getElem_toArray, List.getElem_cons_zero, List.getElem_cons_succ, Act.put, List.setIfInBounds_toArray, List.set_cons_zero, List.set_cons_succ]
  refine' take_pure (i := 7) (v := _) rfl (by kernel_rfl) (by kernel_rfl) (by kernel_rfl) hcl hkn (by rfl) (fun _ _ _ h => h) rfl ?_ ?_
  rotate_left
  · intro w'; go_simp; try with_reducible rfl
  clear hcl hkn
  intro hcl hkn
  try simp only [List.getElem_toArray, List.getElem_cons_zero, List.getElem_cons_succ, Act.put, List.setIfInBounds_toArray, List.set_cons_zero, List.set_cons_succ]
  refine' take_pure (i := 8) (v := _) rfl (by kernel_rfl) (by kernel_rfl) (by kernel_rfl) hcl hkn (by rfl) (fun _ _ _ h => h) rfl ?_ ?_
  rotate_left
  · intro w'; go_simp; try with_reducible rfl
  clear hcl hkn
  intro hcl hkn
  try simp only [List.getElem_toArray, List.getElem_cons_zero, List.getElem_cons_succ, Act.put, List.setIfInBounds_toArray, List.set_cons_zero, List.set_cons_succ]
  refine take_pure (i := 9) rfl (by kernel_rfl) (by kernel_rfl) (by kernel_rfl) hcl hkn (by rfl) (fun _ _ _ h => h) rfl (fun w' => exec_uptoC (.tmp 70) (.tmp 71) (.tmp 72) rfl rfl rfl rfl hhc) ?_
  clear hcl hkn
  intro hcl hkn
  try simp only [List.getElem_toArray, List.getElem_cons_zero, List.getElem_cons_succ, Act.put, List.setIfInBounds_toArray, List.set_cons_zero, List.set_cons_succ]
  have hU := HUp.out w1.drew (Keeps.drew hG0)
  have hC := HCut.out w1.drew (Keeps.drew hG0)
  generalize (if h = 0 then Av else Av.map (·.add 0)) = A3 at hU hC ⊢
  generalize (if cap = h then Av else Av.map (·.add (h * 4))) = A4 at hU hC ⊢
  have HW1 := Lib.hid (HW.out w1.drew (Keeps.drew hG0) _ _ hC (fun c hc => (HCS.out c (List.mem_of_mem_drop hc)).2) (by rw [List.length_drop]; have := HM.out; omega))
  have HB1 := Lib.hid (HBk.out (cs.drop h) (fun c hc => HCS.out c (List.mem_of_mem_drop hc)))
  have HU := Lib.hid hU
  have HbX := Lib.hid hbx
  unfold venv at HW1
  clear hU hC hA hbx
  refine one_next hcl (i := 5) (by kernel_rfl) rfl rfl (fun K hK => ?_)
  go_simp
  refine HW1.out.mono ?_
  rintro e w2 ⟨g1, p1, g2, p2, rfl, m1, m2, k2⟩
  refine hK _ _ (known_one (.inl (by kernel_rfl))) ?_
  clear hK K hcl hkn
  intro hcl hkn
  try simp only [List.getElem_toArray, List.getElem_cons_zero, List.getElem_cons_succ, Act.put, List.setIfInBounds_toArray, List.set_cons_zero, List.set_cons_succ]
  have hG2 := (Keeps.drew hG0).trans k2
  have hI2 := HI.out w2 hG2 _ _ _ _ p1 p2 (by rw [HNN.out]; exact m1.rd) (by rw [HNN.out]; exact m2.rd) (by rw [HNN.out]; exact HB1.out) A3 h h (cs.take h) ((HU.out.grew (Nat.le_refl _) k2).more k2.size) (fun c hc => by rw [HNN.out]; exact HCS.out c (List.mem_of_mem_take hc)) hk1
  rw [HNN.out] at hI2
  have HI2 := Lib.hid hI2
  have HG2 := Lib.hid hG2
  have HbX2 := Lib.hid (HbX.out.grew (Grew.trans (Keeps.drew (Grew.refl w1)) k2))
  unfold venv at HI2
  clear hI2 hG2 hG0 m1 m2 k2 HW1 HB1 HU HbX
  refine one_next hcl (i := 10) (by kernel_rfl) rfl rfl (fun K hK => ?_)
  go_simp
  refine HI2.out.mono ?_
  rintro e w3 ⟨A5, n5, c5, ds, rfl, hn5, r5, hds, hdl, k3⟩
  have hn5' : n5 ≤ h := by have := List.length_take_le h cs; omega
  have HN5 := Lib.hid hn5
  clear hn5
  refine hK _ _ (known_one (.inl (by kernel_rfl))) ?_
  clear hK K hcl hkn
  intro hcl hkn
  try simp only [List.getElem_toArray, List.getElem_cons_zero, List.getElem_cons_succ, Act.put, List.setIfInBounds_toArray, List.set_cons_zero, List.set_cons_succ]
  refine one_next hcl (i := 11) (by kernel_rfl) rfl rfl (fun K hK => ?_)
  go_simp
  refine hK _ _ (known_one (.inl (by kernel_rfl))) ?_
  clear hK K hcl hkn
  intro hcl hkn
  try simp only [List.getElem_toArray, List.getElem_cons_zero, List.getElem_cons_succ, Act.put, List.setIfInBounds_toArray, List.set_cons_zero, List.set_cons_succ]
  refine all_done (by kernel_rfl) ?_ _
  have hG3 := HG2.out.trans k3
  have hbx3 := HbX2.out.grew k3
  have HDS := Lib.hid (show ∀ d ∈ ds, d ∈ cs from fun d hd => List.mem_of_mem_take (hds d hd))
  have hdl' : ds.length ≤ h := Nat.le_trans hdl (List.length_take_le _ _)
  clear hcl hkn hds hdl HI2 HG2 HbX2 k3
  go_upto_region 14 with fail
  have hA : w3.drew.rangeAt w.heap.size 0 (cells3 (x 7) (.slice A1 N c1) (.slice B1 N d1)) := hbx3.rangeN 0 _ (by simp)
  have HD := Lib.hid (HW.out w3.drew (Keeps.drew hG3) _ _ r5 (fun c hc => (HCS.out c (HDS.out c hc)).2) (by omega))
  have HB2 := Lib.hid (HBk.out ds (fun c hc => HCS.out c (HDS.out c hc)))
  unfold venv at HD
  refine late_region [(3, fun w' => w'.rangeAt w.heap.size 0 (cells3 (x 7) (.slice A1 N c1) (.slice B1 N d1)))] (by kernel_rfl) (by intro pp hp; obtain rfl := List.mem_singleton.1 hp; exact hA) ?_
  intro hcl hkn
  refine' take_pure (i := 0) (v := _) rfl (by kernel_rfl) (by kernel_rfl) (by kernel_rfl) hcl hkn (by rfl) (fun _ _ _ h => h) rfl ?_ ?_
  rotate_left
  · intro w'; go_simp; try with_reducible rfl
  clear hcl hkn
  intro hcl hkn
  try simp only [List.getElem_toArray, List.getElem_cons_zero, Act.put, List.setIfInBounds_toArray, List.set_cons_zero, List.set_cons_succ]
  refine take_row 3 _ (i := 1) rfl (by kernel_rfl) (by kernel_rfl) (by kernel_rfl) hcl hkn (by rfl) 0 rfl (by kernel_rfl) 104 (.tmp 4) rfl w.heap.size 0 rfl (cells3 (x 7) (.slice A1 N c1) (.slice B1 N d1)) _ (fun w h => h) Tryz.underlying104 rfl (by kernel_rfl) (fun _ _ _ h => h) rfl ?_
  clear hcl hkn
  intro hcl hkn
  try simp only [List.getElem_toArray, List.getElem_cons_zero, List.getElem_cons_succ, Act.put, List.setIfInBounds_toArray, List.set_cons_zero, List.set_cons_succ]
  refine' take_pure (i := 2) (v := _) rfl (by kernel_rfl) (by kernel_rfl) (by kernel_rfl) hcl hkn (by rfl) (fun _ _ _ h => h) rfl ?_ ?_
  rotate_left
  · intro w'; go_simp; try with_reducible rfl
  clear hcl hkn
  intro hcl hkn
  try simp only [List.getElem_toArray, List.getElem_cons_zero, List.getElem_cons_succ, Act.put, List.setIfInBounds_toArray, List.set_cons_zero, List.set_cons_succ]
  refine' take_pure (i := 4) (v := _) rfl (by kernel_rfl) (by kernel_rfl) (by kernel_rfl) hcl hkn (by rfl) (fun _ _ _ h => h) rfl ?_ ?_
  rotate_left
  · intro w'; go_simp; try with_reducible rfl
  clear hcl hkn
  intro hcl hkn
  try simp only [List.getElem_toArray, List.getElem_cons_zero, List.getElem_cons_succ, Act.put, List.setIfInBounds_toArray, List.set_cons_zero, List.set_cons_succ]
  refine' take_pure (i := 5) (v := _) rfl (by kernel_rfl) (by kernel_rfl) (by kernel_rfl) hcl hkn (by rfl) (fun _ _ _ h => h) rfl ?_ ?_
  rotate_left
  · intro w'; go_simp; try with_reducible rfl
  clear hcl hkn
  intro hcl hkn
  try simp only [List.getElem_toArray, List.getElem_cons_zero, List.getElem_cons_succ, Act.put, List.setIfInBounds_toArray, List.set_cons_zero, List.set_cons_succ]
  refine take_pure (i := 6) rfl (by kernel_rfl) (by kernel_rfl) (by kernel_rfl) hcl hkn (by rfl) (fun _ _ _ h => h) rfl (fun w' => exec_fromC (.tmp 79) (.tmp 80) rfl rfl rfl hhm) ?_
  clear hcl hkn
  intro hcl hkn
  try simp only [List.getElem_toArray, List.getElem_cons_zero, List.getElem_cons_succ, Act.put, List.setIfInBounds_toArray, List.set_cons_zero, List.set_cons_succ]
  have hC := HCut.out w3.drew (Keeps.drew hG3)
  generalize (if cap = h then Av else Av.map (·.add (h * 4))) = A6 at hC ⊢
  have HC := Lib.hid hC
  have HR5 := Lib.hid r5
  have HG3 := Lib.hid hG3
  clear hC hA hbx3 r5 hG3
  refine one_next hcl (i := 3) (by kernel_rfl) rfl rfl (fun K hK => ?_)
  go_simp
  refine HD.out.mono ?_
  rintro e w4 ⟨g3, p3, g4, p4, rfl, m3, m4, k4⟩
  refine hK _ _ (known_one (.inl (by kernel_rfl))) ?_
  clear hK K hcl hkn
  intro hcl hkn
  try simp only [List.getElem_toArray, List.getElem_cons_zero, List.getElem_cons_succ, Act.put, List.setIfInBounds_toArray, List.set_cons_zero, List.set_cons_succ]
  have hG4 := (Keeps.drew HG3.out).trans k4
  have hI4 := HI.out w4 hG4 _ _ _ _ p3 p4 (by rw [HNN.out]; exact m3.rd) (by rw [HNN.out]; exact m4.rd) (by rw [HNN.out]; exact HB2.out) A6 (m - h) (cap - h) (cs.drop h) ((HC.out.grew (Nat.le_refl _) k4).more k4.size) (fun c hc => by rw [HNN.out]; exact HCS.out c (List.mem_of_mem_drop hc)) hk2
  rw [HNN.out] at hI4
  have HI4 := Lib.hid hI4
  have HG4 := Lib.hid hG4
  have HR54 := Lib.hid ((HR5.out.grew (Nat.le_refl _) (Grew.trans (Keeps.drew (Grew.refl w3)) k4)).more k4.size)
  unfold venv at HI4
  clear hI4 hG4 m3 m4 k4 HD HB2 HC HR5 HG3
  refine one_next hcl (i := 7) (by kernel_rfl) rfl rfl (fun K hK => ?_)
  go_simp
  refine HI4.out.mono ?_
  rintro e w5 ⟨A7, n7, c7, es, rfl, hn7, r7, hes, hel, k5⟩
  have hn7' : n7 ≤ m := by rw [List.length_drop] at hel; have := HM.out; omega
  have HN7 := Lib.hid hn7
  clear hn7
  refine hK _ _ (known_one (.inl (by kernel_rfl))) ?_
  clear hK K hcl hkn
  intro hcl hkn
  try simp only [List.getElem_toArray, List.getElem_cons_zero, List.getElem_cons_succ, Act.put, List.setIfInBounds_toArray, List.set_cons_zero, List.set_cons_succ]
  refine one_next hcl (i := 8) (by kernel_rfl) rfl rfl (fun K hK => ?_)
  go_simp
  refine hK _ _ (known_one (.inl (by kernel_rfl))) ?_
  clear hK K hcl hkn
  intro hcl hkn
  try simp only [List.getElem_toArray, List.getElem_cons_zero, List.getElem_cons_succ, Act.put, List.setIfInBounds_toArray, List.set_cons_zero, List.set_cons_succ]
  refine all_done (by kernel_rfl) ?_ _
  have hR5 := (HR54.out.grew (Nat.le_refl _) k5).more k5.size
  have HES := Lib.hid (show ∀ d ∈ es, d ∈ cs from fun d hd => List.mem_of_mem_drop (hes d hd))
  have hel' : es.length ≤ m - h := by rw [List.length_drop] at hel; have := HM.out; omega
  have HG5 := Lib.hid (HG4.out.trans k5)
  clear hcl hkn hes hel HI4 HR54 HG4 k5
  go_wp2_with (first | (refine sl_uptoC rfl (.tmp 83) (.tmp 85) (.tmp 87) rfl rfl rfl rfl (Nat.le_refl _) hR5 ?_; intro A8 hR8; rw [List.take_of_length_le (by rw [← HN5.out]; exact Nat.le_refl _)] at hR8) | (at_builtin; refine app_fullC rfl (.tmp 88) (.tmp 89) rfl rfl rfl hR8 r7 (Nat.le_refl _) (by omega) ?_; intro A9 m9 c9 w9 hm9 r9 k9; have HR9 := Lib.hid r9; have HM9 := Lib.hid hm9; have HG9 := Lib.hid (HG5.out.trans k9); clear r9 hm9 k9))
  go_ret
  exact ⟨A9, m9, c9, ds ++ es, rfl, HM9.out, HR9.out, fun d hd => by
    rcases List.mem_append.1 hd with h | h
    · exact HDS.out d h
    · exact HES.out d h, by rw [List.length_append]; have := HM.out; omega, HG9.out⟩
theorem keep_any (gt : Nat) (nm : ByteArray) (A : Option Addr) (n c : Nat) (ls : List (ByteArray × ByteArray)) (x : Fin 10 → Int) (B : Option Addr) (p : Nat) (C : Option Addr) (q : Nat) (most : Int) (all : List Clm) (hnm : Low nm) (hls : GoodL ls) (hx : GoodD x) (hv : ∀ c ∈ all, ValidC x c) (hc : clashB x (spanD x) all = false) :
    ∀ (k : Nat), k ≤ 4096 → ∀ (w : World), KSt w gt nm A n c ls x B (spanD x) p C q most (boundE x (spanD x) all) → KeepIH gt x (boundE x (spanD x) all) k w := by
  have zero : ∀ (w : World) (lo hi : List Int) (A1 B1 : Option Addr) (c1 d1 : Nat) (Av : Option Addr) (cap : Nat) (cs : List Clm) (_ : RdC w w.heap.size (.slice Av 0 cap) cs),
      Calls Tryz.prog 57 #[.pointer (some ⟨gt, 0, none⟩), venv (x 7) (.slice A1 (spanD x) c1) (.slice B1 (spanD x) d1), .slice Av 0 cap] w (KeepPost cs w) := by
    intro w lo hi A1 B1 c1 d1 Av cap cs hr
    have : cs = [] := by
      obtain ⟨_, _, _, e, h, _⟩ := hr.form
      injection e with _ e
      exact List.eq_nil_of_length_eq_zero (by omega)
    subst this
    exact keep_none gt _ _ _ cap Av w
  intro k
  induction k with
  | zero =>
    intro _ w hK w' g lo hi A1 B1 c1 d1 hlo hhi hb Av m cap cs hr hcs hm
    obtain rfl : m = 0 := by omega
    exact zero w' lo hi A1 B1 c1 d1 Av cap cs hr
  | succ k ih =>
    intro hk w hK w' g lo hi A1 B1 c1 d1 hlo hhi hb Av m cap cs hr hcs hm
    rcases Nat.lt_or_ge m 2 with h | h
    · rcases Nat.lt_or_ge m 1 with h0 | h0
      · obtain rfl : m = 0 := by omega
        exact zero w' lo hi A1 B1 c1 d1 Av cap cs hr
      · obtain rfl : m = 1 := by omega
        exact keep_one gt nm A n c ls x B p C q most all hnm hls hx hv hc w' (hK.grew g) lo hi A1 B1 c1 d1 hlo hhi hb Av cap cs hr
    · exact keep_many gt x hx _ k w' (ih (by omega) w' (hK.grew g)) lo hi A1 B1 c1 d1 hlo hhi hb Av m cap cs hr hcs hm h (by omega)
end Go.Proofs.YtgkmfblmkfclbaaGreatDoor
