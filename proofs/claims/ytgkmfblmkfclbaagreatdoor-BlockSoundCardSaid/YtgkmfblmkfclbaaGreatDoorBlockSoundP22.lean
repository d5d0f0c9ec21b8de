/- ref10.Decl: a declaration with a short name and few labels. A struct or array of any number of cells in a block that is known whole: stored and loaded in one step. -/
import Derived.Test.YtgkmfblmkfclbaaGreatDoorBlockSoundP21
import Derived.Test.YtgkmfblmkfclbaaGreatDoorBlockSoundP01
import Derived.Deep.MidRow
namespace Go.Proofs.YtgkmfblmkfclbaaGreatDoor
open Go.RowKit Pl

def nameOf (k : Nat) : ByteArray := if k = 0 then ⟨#[99, 112, 117]⟩ else ⟨#[109, 101, 109]⟩
theorem nameOf_size (k : Nat) : (nameOf k).size ≤ 16 := by unfold nameOf; split <;> decide
theorem store12_run {w : World} {g : Nat} {t : TypeId} {nm : ByteArray} {v : Value} {x : Fin 10 → Int} (hb : Box w g t (cells12 nm v x).toArray) (nm' : ByteArray) (A : Option Addr) (n c : Nat) (x' : Fin 10 → Int) :
    ∃ w', (Instr.storeAt 27 (.pointer (some ⟨g, 0, none⟩)) (.agg (cells12 nm' (.slice A n c) x').toArray)).run Tryz.prog w = .ok () w' ∧ Box w' g t (cells12 nm' (.slice A n c) x').toArray ∧ Keeps (fun i => i = g) w w' :=
  ⟨_, run_storeAt_mid w g 0 27 _ hb.there12 info12 (by simp [cells12, Value.oneCell']), hb.put12 nm' _ x', put12_keeps w g _ rfl⟩
def x100 : Fin 10 → Int := fun i => if i.val = 0 then 1 else 0
theorem RdL.slc {w : World} {v : Value} {ls : List (ByteArray × ByteArray)} (h : RdL w v ls) : ∃ A c, v = .slice A ls.length c := by
  obtain ⟨_, A, c, hv, _⟩ := h
  exact ⟨A, c, hv⟩
theorem RdL.keepD {w w' : World} {v : Value} {ls : List (ByteArray × ByteArray)} {g : Nat} {t : TypeId} {nm : ByteArray} {A : Option Addr} {n c : Nat} {x : Fin 10 → Int} (h : RdL w v ls) (hb : Box w g t (cells12 nm (.slice A n c) x).toArray) (k : Keeps (fun i => i = g) w w') : RdL w' v ls := by
  obtain ⟨h0, A', c', hv, hx⟩ := h
  refine ⟨h0, A', c', hv, fun hn => ?_⟩
  obtain ⟨b, e, hlt, hcell⟩ := hx hn
  have hne : b ≠ g := by
    rintro rfl
    have h1 := (hcell 0 _ (List.getElem?_eq_getElem hn)).2
    have h2 := hb.cell 1
    rw [show (0 * 2 + 1 : Nat) = 1 from rfl, h2] at h1
    cases h1
  have hbk := k.block b hlt hne
  exact ⟨b, e, Nat.lt_of_lt_of_le hlt k.size, fun j p hp => ⟨(World.cell?_of_block (a := ⟨b, j * 2, none⟩) hbk).trans (hcell j p hp).1, (World.cell?_of_block (a := ⟨b, j * 2 + 1, none⟩) hbk).trans (hcell j p hp).2⟩⟩
/- while the declaration is being filled -/
structure DS (w wx : World) (g7 : Nat) (nm : ByteArray) (AL : Option Addr) (nL cL : Nat) (ls : List (ByteArray × ByteArray)) (x : Fin 10 → Int) : Prop where
  box : Box wx g7 27 (cells12 nm (.slice AL nL cL) x).toArray
  lab : RdL wx (.slice AL nL cL) ls
  out : Box wx w.heap.size 27 (cells12 ⟨#[]⟩ (.slice none 0 0) (fun _ => 0)).toArray
  grew : Grew w wx
  lt : w.heap.size < g7
theorem DS.step {w wx wy : World} {g7 : Nat} {nm : ByteArray} {AL : Option Addr} {nL cL : Nat} {ls : List (ByteArray × ByteArray)} {x x' : Fin 10 → Int} (h : DS w wx g7 nm AL nL cL ls x) (hb : Box wy g7 27 (cells12 nm (.slice AL nL cL) x').toArray) (k : Keeps (fun i => i = g7) wx wy) : DS w wy g7 nm AL nL cL ls x' :=
  ⟨hb, h.lab.keepD h.box k, h.out.keep k (fun e => by have := h.lt; omega), Keeps.then_ h.grew k (fun i hi e => by have := h.lt; omega), h.lt⟩
theorem st1e {w : World} {g : Nat} {t : TypeId} {nm : ByteArray} {v : Value} {x : Fin 10 → Int} {ops : Array Oper} {rest : List Oper} {o : Oper} {a : Act} {Q : Exit → Act → World → Prop} (xo yo : Operand) (k : Nat) (hk : k < 10) (n : Int) (hgd : o.guard = none) (ho : o.op = .store 3 xo yo)
    (hx : a.eval xo = .pointer (some ⟨g, k + 2, none⟩)) (hy : a.eval yo = .int .i64 n) (hb : Box w g t (cells12 nm v x).toArray)
    (h : ∀ w', Box w' g t (cells12 nm v (upd x k n)).toArray → Keeps (fun i => i = g) w w' → wpList Tryz.prog ops Q rest (a.put o.dst undef) w') : wpList Tryz.prog ops Q (o :: rest) a w := by
  have hu : ∃ u, (cells12 nm v x).toArray[k + 2]? = some u := ⟨(cells12 nm v x)[k + 2]'(by simp [cells12]; omega), by simp⟩
  obtain ⟨u, hu⟩ := hu
  have hc := (hb.cell (k + 2)).trans hu
  have hf := hb.frozen (k + 2)
  have hk' : Keeps (fun i => i = g) w (w.setCell ⟨g, k + 2, none⟩ (.int .i64 n)) := (Keeps.refl (fun i => i = g) w).setCell (p := ⟨g, k + 2, none⟩) (.inl rfl) _
  refine wpList_plain hgd fun K hK => ?_
  unfold Oper.wp execOp
  simp only [ho, hx, hy]
  go_simp
  exact hK _ _ (h _ (hb.put1d k hk n) hk')
def declK (k0 k1 k2 k5 k6 k7 k8 : Nat) : Fin 10 → Int :=
  upd (upd (upd (upd (upd (upd (upd x100 3 ((k0 : Int) - 9)) 4 ((k0 : Int) - 9 + (k5 : Int))) 5 ((k1 : Int) - 3)) 6 ((k1 : Int) - 3 + (k6 : Int))) 7 (k2 : Int)) 8 ((k2 : Int) + (k7 : Int))) 9 (k8 : Int)
def DeclPost (nm : ByteArray) (x : Fin 10 → Int) (w : World) (e : Ending) (w' : World) : Prop :=
  ∃ v ls, e = .returned (vdecl nm v x) ∧ RdL w' v ls ∧ ls ∈ lab4 ∧ Grew w w'
set_option maxHeartbeats 12800000 in
set_option maxRecDepth 100000 in
theorem decl_any (v : Value) (l : List Int) (w : World) (h : Rd w w.heap.size v (l.map vi)) (hi : ∀ x ∈ l, I64 x) (hl : l.length ≤ 1000000000000000) :
    Calls Tryz.prog 4 #[v] w (DeclPost (nameOf (pickV l 3 2)) (declK (pickV l 0 10) (pickV l 1 5) (pickV l 2 7) (pickV l 5 17) (pickV l 6 4) (pickV l 7 14) (pickV l 8 40)) w) := by
  have HPk := Lib.hid (fun (i m : Nat) (w' : World) (g : Grew w w') (h1 : i ≤ 1000) (h2 : 0 < m) (h3 : m ≤ 1000) => pick_any v l i m w' ((h.grew (Nat.le_refl _) g).more g.size) hi hl h1 h2 h3)
  have HLT := Lib.hid (fun (i m : Nat) (h2 : 0 < m) => pickV_lt l i m h2)
  obtain ⟨A, n, c, rfl, -, -⟩ := h.form
  clear h hi
  go_enter Tryz.func4, Tryz.ntmps4
  go_upto_region 2 with fail
  have hb2 : Box ((w.alloc (.cells #[.string ⟨#[]⟩, .slice none 0 0, .int .i64 0, .int .i64 0, .int .i64 0, .int .i64 0, .int .i64 0, .int .i64 0, .int .i64 0, .int .i64 0, .int .i64 0, .int .i64 0] 27)).alloc (.cells #[.string ⟨#[99, 112, 117]⟩, .string ⟨#[109, 101, 109]⟩] 9)) w.heap.size 27 (cells12 ⟨#[]⟩ (.slice none 0 0) (fun _ => 0)).toArray := (Box.new w 27 _).alloc _
  have hbn : Box ((w.alloc (.cells #[.string ⟨#[]⟩, .slice none 0 0, .int .i64 0, .int .i64 0, .int .i64 0, .int .i64 0, .int .i64 0, .int .i64 0, .int .i64 0, .int .i64 0, .int .i64 0, .int .i64 0] 27)).alloc (.cells #[.string ⟨#[99, 112, 117]⟩, .string ⟨#[109, 101, 109]⟩] 9)) (w.heap.size + 1) 9 #[.string ⟨#[99, 112, 117]⟩, .string ⟨#[109, 101, 109]⟩] := by
    have := Box.new (w.alloc (.cells #[.string ⟨#[]⟩, .slice none 0 0, .int .i64 0, .int .i64 0, .int .i64 0, .int .i64 0, .int .i64 0, .int .i64 0, .int .i64 0, .int .i64 0, .int .i64 0, .int .i64 0] 27)) 9 #[.string ⟨#[99, 112, 117]⟩, .string ⟨#[109, 101, 109]⟩]
    rw [World.size_alloc] at this
    exact this
  have hG1 : Grew w ((w.alloc (.cells #[.string ⟨#[]⟩, .slice none 0 0, .int .i64 0, .int .i64 0, .int .i64 0, .int .i64 0, .int .i64 0, .int .i64 0, .int .i64 0, .int .i64 0, .int .i64 0, .int .i64 0] 27)).alloc (.cells #[.string ⟨#[99, 112, 117]⟩, .string ⟨#[109, 101, 109]⟩] 9)) := ((Grew.refl w).alloc _).alloc _
  change Code.wp _ _ _ _ ((w.alloc (.cells #[.string ⟨#[]⟩, .slice none 0 0, .int .i64 0, .int .i64 0, .int .i64 0, .int .i64 0, .int .i64 0, .int .i64 0, .int .i64 0, .int .i64 0, .int .i64 0, .int .i64 0] 27)).alloc (.cells #[.string ⟨#[99, 112, 117]⟩, .string ⟨#[109, 101, 109]⟩] 9))
  generalize ((w.alloc (.cells #[.string ⟨#[]⟩, .slice none 0 0, .int .i64 0, .int .i64 0, .int .i64 0, .int .i64 0, .int .i64 0, .int .i64 0, .int .i64 0, .int .i64 0, .int .i64 0, .int .i64 0] 27)).alloc (.cells #[.string ⟨#[99, 112, 117]⟩, .string ⟨#[109, 101, 109]⟩] 9)) = w1 at *
  have hlt2 := hb2.lt
  have hltn := hbn.lt
  have hP0 : ∀ w', Grew w w' → Calls Tryz.prog 15 #[.slice A n c, .int .i64 0, .int .i64 10] w' fun e w'' => e = .returned (.int .i64 (pickV l 0 10 : Nat)) ∧ w'' = w' := fun w' g => HPk.out 0 10 w' g (by omega) (by omega) (by omega)
  have HP0 := Lib.hid hP0
  clear hP0
  have hk0 := HLT.out 0 10 (by omega)
  generalize pickV l 0 10 = k0 at *
  have hP1 : ∀ w', Grew w w' → Calls Tryz.prog 15 #[.slice A n c, .int .i64 1, .int .i64 5] w' fun e w'' => e = .returned (.int .i64 (pickV l 1 5 : Nat)) ∧ w'' = w' := fun w' g => HPk.out 1 5 w' g (by omega) (by omega) (by omega)
  have HP1 := Lib.hid hP1
  clear hP1
  have hk1 := HLT.out 1 5 (by omega)
  generalize pickV l 1 5 = k1 at *
  have hP2 : ∀ w', Grew w w' → Calls Tryz.prog 15 #[.slice A n c, .int .i64 2, .int .i64 7] w' fun e w'' => e = .returned (.int .i64 (pickV l 2 7 : Nat)) ∧ w'' = w' := fun w' g => HPk.out 2 7 w' g (by omega) (by omega) (by omega)
  have HP2 := Lib.hid hP2
  clear hP2
  have hk2 := HLT.out 2 7 (by omega)
  generalize pickV l 2 7 = k2 at *
  have hP3 : ∀ w', Grew w w' → Calls Tryz.prog 15 #[.slice A n c, .int .i64 3, .int .i64 2] w' fun e w'' => e = .returned (.int .i64 (pickV l 3 2 : Nat)) ∧ w'' = w' := fun w' g => HPk.out 3 2 w' g (by omega) (by omega) (by omega)
  have HP3 := Lib.hid hP3
  clear hP3
  have hk3 := HLT.out 3 2 (by omega)
  generalize pickV l 3 2 = k3 at *
  have hP4 : ∀ w', Grew w w' → Calls Tryz.prog 15 #[.slice A n c, .int .i64 4, .int .i64 4] w' fun e w'' => e = .returned (.int .i64 (pickV l 4 4 : Nat)) ∧ w'' = w' := fun w' g => HPk.out 4 4 w' g (by omega) (by omega) (by omega)
  have HP4 := Lib.hid hP4
  clear hP4
  have hk4 := HLT.out 4 4 (by omega)
  generalize pickV l 4 4 = k4 at *
  have hP5 : ∀ w', Grew w w' → Calls Tryz.prog 15 #[.slice A n c, .int .i64 5, .int .i64 17] w' fun e w'' => e = .returned (.int .i64 (pickV l 5 17 : Nat)) ∧ w'' = w' := fun w' g => HPk.out 5 17 w' g (by omega) (by omega) (by omega)
  have HP5 := Lib.hid hP5
  clear hP5
  have hk5 := HLT.out 5 17 (by omega)
  generalize pickV l 5 17 = k5 at *
  have hP6 : ∀ w', Grew w w' → Calls Tryz.prog 15 #[.slice A n c, .int .i64 6, .int .i64 4] w' fun e w'' => e = .returned (.int .i64 (pickV l 6 4 : Nat)) ∧ w'' = w' := fun w' g => HPk.out 6 4 w' g (by omega) (by omega) (by omega)
  have HP6 := Lib.hid hP6
  clear hP6
  have hk6 := HLT.out 6 4 (by omega)
  generalize pickV l 6 4 = k6 at *
  have hP7 : ∀ w', Grew w w' → Calls Tryz.prog 15 #[.slice A n c, .int .i64 7, .int .i64 14] w' fun e w'' => e = .returned (.int .i64 (pickV l 7 14 : Nat)) ∧ w'' = w' := fun w' g => HPk.out 7 14 w' g (by omega) (by omega) (by omega)
  have HP7 := Lib.hid hP7
  clear hP7
  have hk7 := HLT.out 7 14 (by omega)
  generalize pickV l 7 14 = k7 at *
  have hP8 : ∀ w', Grew w w' → Calls Tryz.prog 15 #[.slice A n c, .int .i64 8, .int .i64 40] w' fun e w'' => e = .returned (.int .i64 (pickV l 8 40 : Nat)) ∧ w'' = w' := fun w' g => HPk.out 8 40 w' g (by omega) (by omega) (by omega)
  have HP8 := Lib.hid hP8
  clear hP8
  have hk8 := HLT.out 8 40 (by omega)
  generalize pickV l 8 40 = k8 at *
  clear HPk HLT
  have hcn : ∀ w', Grew w1 w' → w'.cell? ⟨w.heap.size + 1, k3, none⟩ = some (.string (nameOf k3)) := fun w' g => by
    have hb' := hbn.grew g
    have : k3 = 0 ∨ k3 = 1 := by omega
    rcases this with rfl | rfl
    · exact hb'.cell 0
    · exact hb'.cell 1
  have HCN := Lib.hid hcn
  have hnz := nameOf_size k3
  generalize nameOf k3 = nm at *
  have HLb := Lib.hid (fun w' => labels_any (k4 : Int) w' (by constructor <;> omega))
  have i3 : (k3 : Int) < 2 := by omega
  have i3n : k3 < 2 := hk3
  go_wp2_with fail
  refine (HP0.out w1 hG1).mono ?_
  rintro e w' ⟨rfl, hw'⟩
  rw [hw']; clear hw' w' HP0
  go_wp2_with fail
  refine (HP1.out w1 hG1).mono ?_
  rintro e w' ⟨rfl, hw'⟩
  rw [hw']; clear hw' w' HP1
  go_wp2_with fail
  refine (HP2.out w1 hG1).mono ?_
  rintro e w' ⟨rfl, hw'⟩
  rw [hw']; clear hw' w' HP2
  have gz : Grew w1 w1.drew := Keeps.drew (Grew.refl w1)
  have cz := hcn w1.drew gz
  have gzw : Grew w w1.drew := hG1.trans gz
  have gza : Grew w1 (w1.alloc (.cells #[.string ⟨#[]⟩, .slice none 0 0, .int .i64 0, .int .i64 0, .int .i64 0, .int .i64 0, .int .i64 0, .int .i64 0, .int .i64 0, .int .i64 0, .int .i64 0, .int .i64 0] 27)).drew := Keeps.drew ((Grew.refl w1).alloc _)
  have gzaw : Grew w (w1.alloc (.cells #[.string ⟨#[]⟩, .slice none 0 0, .int .i64 0, .int .i64 0, .int .i64 0, .int .i64 0, .int .i64 0, .int .i64 0, .int .i64 0, .int .i64 0, .int .i64 0, .int .i64 0] 27)).drew := hG1.trans gza
  have cza := hcn _ gza
  have HB7 := Lib.hid (show Box (w1.alloc (.cells #[.string ⟨#[]⟩, .slice none 0 0, .int .i64 0, .int .i64 0, .int .i64 0, .int .i64 0, .int .i64 0, .int .i64 0, .int .i64 0, .int .i64 0, .int .i64 0, .int .i64 0] 27)).drew w1.heap.size 27 (cells12 ⟨#[]⟩ (.slice none 0 0) (fun _ => 0)).toArray from Box.drew (Box.new w1 27 _))
  have HG1 := Lib.hid hG1
  have HB2 := Lib.hid hb2
  clear hcn hbn hb2 hG1
  go_upto_region 5 with fail
  go_cut [7] (fun s7 wx => ∃ g7 AL nL cL ls, s7 = .pointer (some ⟨g7, 0, none⟩) ∧ ls ∈ lab4 ∧ DS w wx g7 nm AL nL cL ls x100)
  case first =>
   go_region_held3 (fun w' => w'.cell? ⟨w.heap.size + 1, k3, none⟩ = some (.string nm)) (first | assumption | exact HCN.out _ (by assumption) | exact HCN.out _ (Keeps.drew (Grew.refl _)) | exact HCN.out _ gza | exact HCN.out _ (Keeps.alloc (by assumption) _))
    (first | (go_at_call 15; (with_reducible refine (HP3.out _ (by assumption)).mono ?_); rintro e wq ⟨rfl, rfl⟩) | (go_at_call 15; (with_reducible refine (HP4.out _ (by assumption)).mono ?_); rintro e wq ⟨rfl, rfl⟩) | (go_at_call 16; (with_reducible refine (HLb.out w1.drew).mono ?_); rintro e wL ⟨vl, ls, rfl, hL, hL2, gL⟩; obtain ⟨AL, cL, rfl⟩ := hL.slc; have gL1 := gz.trans gL; have gLw := gzw.trans gL; have cL' := HCN.out wL gL1; have hb7 := Box.new wL 27 (cells12 ⟨#[]⟩ (.slice none 0 0) (fun _ => 0)).toArray; have gg7 := gLw.alloc (.cells (cells12 ⟨#[]⟩ (.slice none 0 0) (fun _ => 0)).toArray 27); have hL7 := hL.grew ((Grew.refl wL).alloc (.cells (cells12 ⟨#[]⟩ (.slice none 0 0) (fun _ => 0)).toArray 27)); have hlt7 : w.heap.size < wL.heap.size := Nat.lt_of_lt_of_le hlt2 gL1.size; have h2L := (HB2.out.grew gL1).alloc (.cells (cells12 ⟨#[]⟩ (.slice none 0 0) (fun _ => 0)).toArray 27); have cP := HCN.out _ (gL1.alloc (.cells (cells12 ⟨#[]⟩ (.slice none 0 0) (fun _ => 0)).toArray 27)); have neP : w.heap.size + 1 ≠ wL.heap.size := (by have := gL1.size; omega); have ltP : w.heap.size + 1 < (wL.alloc (.cells (cells12 ⟨#[]⟩ (.slice none 0 0) (fun _ => 0)).toArray 27)).heap.size := (by have := gL1.size; rw [World.size_alloc]; omega); have HD := Lib.hid (show DS w (wL.alloc (.cells (cells12 nm (.slice AL ls.length cL) x100).toArray 27)) wL.heap.size nm AL ls.length cL ls x100 from ⟨Box.new wL _ _, hL.grew ((Grew.refl wL).alloc _), (HB2.out.grew gL1).alloc _, gLw.alloc _, hlt7⟩); clear hb7 gg7 hL7 h2L hL gLw hlt7) | (go_at_call 16; (with_reducible refine (HLb.out (w1.alloc (.cells #[.string ⟨#[]⟩, .slice none 0 0, .int .i64 0, .int .i64 0, .int .i64 0, .int .i64 0, .int .i64 0, .int .i64 0, .int .i64 0, .int .i64 0, .int .i64 0, .int .i64 0] 27)).drew).mono ?_); rintro e wL ⟨vl, ls, rfl, hL, hL2, gL⟩; obtain ⟨AL, cL, rfl⟩ := hL.slc; have gL1 := gza.trans gL; have gg7 := gzaw.trans gL; have cL' := HCN.out wL gL1; have hb7 := (HB7.out).grew gL; have hL7 := hL; have hlt7 : w.heap.size < w1.heap.size := hlt2; have h2L := HB2.out.grew gL1; have cP := cL'; have neP : w.heap.size + 1 ≠ w1.heap.size := (by omega); have ltP : w.heap.size + 1 < wL.heap.size := (by have := gL1.size; omega); obtain ⟨wS, hrS, hbS, hkS⟩ := store12_run hb7 nm AL ls.length cL x100; have hRun : (Instr.storeAt 27 (.pointer (some ⟨w1.heap.size, 0, none⟩)) (.agg #[.string nm, .slice AL ls.length cL, .int .i64 1, .int .i64 0, .int .i64 0, .int .i64 0, .int .i64 0, .int .i64 0, .int .i64 0, .int .i64 0, .int .i64 0, .int .i64 0])).run Tryz.prog wL = .ok () wS := hrS; clear hrS; simp [go_sem] at hRun; have cS := (World.cell?_of_block (a := ⟨w.heap.size + 1, k3, none⟩) (hkS.block _ ltP (fun e => neP e))).trans cP; have HD := Lib.hid (show DS w wS w1.heap.size nm AL ls.length cL ls x100 from ⟨hbS, hL7.keepD hb7 hkS, h2L.keep hkS (fun e => by omega), Keeps.then_ gg7 hkS (fun i hi e => by omega), hlt7⟩); clear hbS hkS hL7 gg7 hlt7 h2L hL hb7))
   all_goals (go_wp2_with fail; go_meet; exact ⟨_, AL, ls.length, cL, ls, rfl, hL2, HD.out⟩)
  case rest =>
    obtain ⟨g7, AL, nL, cL, ls, rfl, hl2, D0⟩ := hcut
    clear HCN HLb gz cz gzw gza gzaw cza HB7 HG1 HB2 HP3 HP4 hlt2 hltn
    go_wp2_with (refine st1e (.tmp 28) (.tmp 27) 3 (by decide) ((k0 : Int) - 9) rfl rfl rfl rfl D0.box ?_; intro wD1 hbD1 hkD1; have D1 := D0.step hbD1 hkD1)
    refine (HP5.out _ D1.grew).mono ?_
    rintro e w' ⟨rfl, hw'⟩
    rw [hw']; clear hw' w' HP5
    go_wp2_with (first | (refine st1e (.tmp 33) (.tmp 32) 4 (by decide) ((k0 : Int) - 9 + (k5 : Int)) rfl rfl rfl rfl D1.box ?_; intro wD2 hbD2 hkD2; have D2 := D1.step hbD2 hkD2) | (refine st1e (.tmp 35) (.tmp 34) 5 (by decide) ((k1 : Int) - 3) rfl rfl rfl rfl D2.box ?_; intro wD3 hbD3 hkD3; have D3 := D2.step hbD3 hkD3))
    refine (HP6.out _ D3.grew).mono ?_
    rintro e w' ⟨rfl, hw'⟩
    rw [hw']; clear hw' w' HP6
    go_wp2_with (first | (refine st1e (.tmp 40) (.tmp 39) 6 (by decide) ((k1 : Int) - 3 + (k6 : Int)) rfl rfl rfl rfl D3.box ?_; intro wD4 hbD4 hkD4; have D4 := D3.step hbD4 hkD4) | (refine st1e (.tmp 42) (.tmp 41) 7 (by decide) ((k2 : Int)) rfl rfl rfl rfl D4.box ?_; intro wD5 hbD5 hkD5; have D5 := D4.step hbD5 hkD5))
    refine (HP7.out _ D5.grew).mono ?_
    rintro e w' ⟨rfl, hw'⟩
    rw [hw']; clear hw' w' HP7
    go_wp2_with (refine st1e (.tmp 47) (.tmp 46) 8 (by decide) ((k2 : Int) + (k7 : Int)) rfl rfl rfl rfl D5.box ?_; intro wD6 hbD6 hkD6; have D6 := D5.step hbD6 hkD6)
    refine (HP8.out _ D6.grew).mono ?_
    rintro e w' ⟨rfl, hw'⟩
    rw [hw']; clear hw' w' HP8
    go_wp2_with (first | (refine st1e (.tmp 50) (.tmp 49) 9 (by decide) ((k8 : Int)) rfl rfl rfl rfl D6.box ?_; intro wD7 hbD7 hkD7; have D7 := D6.step hbD7 hkD7) | (refine ld12 (.tmp 7) rfl rfl rfl D7.box ?_) | (refine st12 (.tmp 2) (.tmp 51) nm AL nL cL _ rfl rfl rfl rfl D7.out ?_; intro wz hbz hkz))
    refine bodyPost_ret (v := vdecl nm (.slice AL nL cL) (declK k0 k1 k2 k5 k6 k7 k8)) (results_cell12 rfl rfl hbz) rfl ⟨_, ls, rfl, D7.lab.keepD D7.out hkz, hl2, Keeps.then_ D7.grew hkz (fun i hi e => by omega)⟩
end Go.Proofs.YtgkmfblmkfclbaaGreatDoor
namespace Go.Proofs.YtgkmfblmkfclbaaGreatDoor
open Go.RowKit

theorem setCells_keeps (g : Nat) : ∀ (vs : List Value) (o : Nat) (w : World), Keeps (fun i => i = g) w (w.setCells g o vs) ∧ (w.setCells g o vs).drawn = w.drawn
  | [], _, w => ⟨Keeps.refl _ w, rfl⟩
  | v :: r, o, w => by
    have h := setCells_keeps g r (o + 1) (w.setCell ⟨g, o, none⟩ v)
    exact ⟨((Keeps.refl (fun i => i = g) w).setCell (p := ⟨g, o, none⟩) (.inl rfl) v).trans h.1, h.2⟩
theorem Box.putN {g : Nat} {t : TypeId} : ∀ (vs : List Value) {w : World} {us : List Value} (_ : Box w g t us.toArray) (o : Nat) (_ : o + vs.length ≤ us.length), Box (w.setCells g o vs) g t (us.take o ++ vs ++ us.drop (o + vs.length)).toArray
  | [], w, us, h, o, _ => by simpa [World.setCells] using h
  | v :: r, w, us, h, o, hl => by
    simp only [List.length_cons] at hl
    have h1 := h.set_ o v
    rw [List.setIfInBounds_toArray] at h1
    have h2 := Box.putN r h1 (o + 1) (by simp; omega)
    have e : (us.set o v).take (o + 1) ++ r ++ (us.set o v).drop (o + 1 + r.length) = us.take o ++ v :: r ++ us.drop (o + (v :: r).length) := by
      rw [List.take_add_one, List.take_set_of_le (Nat.le_refl o), List.getElem?_set_self (by omega), List.drop_set_of_lt (by omega)]
      simp [Nat.add_assoc, Nat.add_comm 1]
    rw [e] at h2
    exact h2
section
variable {P : Program} {w : World} {g : Nat} {t : TypeId} {us : List Value}
theorem Box.thereN (h : Box w g t us.toArray) (o n : Nat) (hn : o + n ≤ us.length) : w.there g o n := fun j hj => by
  refine ⟨?_, h.frozen _⟩
  rw [h.cell]
  simp; omega
theorem Box.rangeN (h : Box w g t us.toArray) (o : Nat) (cs : List Value) (hc : (us.drop o).take cs.length = cs) : w.rangeAt g o cs := fun j u hu => by
  rw [h.cell, List.getElem?_toArray]
  have hj : j < cs.length := (List.getElem?_eq_some_iff.1 hu).1
  rw [← hu, ← hc, List.getElem?_take, if_pos hj, List.getElem?_drop]
variable {ops : Array Oper} {rest : List Oper} {o : Oper} {a : Act} {Q : Exit → Act → World → Prop}
/- the whole block -/
theorem stN (T : TypeId) (x y : Operand) (g : Nat) (vs us : List Value) (t : TypeId) (hT : (P.info? T).map (·.size) = some vs.length) (hl : us.length = vs.length) (h1 : ∀ v ∈ vs, v.oneCell' = true) (hgd : o.guard = none) (ho : o.op = .store T x y)
    (hx : a.eval x = .pointer (some ⟨g, 0, none⟩)) (hy : a.eval y = .agg vs.toArray) (hb : Box w g t us.toArray)
    (h : ∀ w', Box w' g t vs.toArray → Keeps (fun i => i = g) w w' → w'.drawn = w.drawn → wpList P ops Q rest (a.put o.dst undef) w') : wpList P ops Q (o :: rest) a w := by
  refine wpList_store_mid hgd T x y ho g 0 vs.toArray hx hy (by simpa using hb.thereN 0 vs.length (by omega)) (by simpa using hT) (all_oneCell_toArray h1) ?_
  obtain ⟨k1, k2⟩ := setCells_keeps g vs 0 w
  have hp := hb.putN vs 0 (by omega)
  have e : us.take 0 ++ vs ++ us.drop (0 + vs.length) = vs := by simp [← hl]
  rw [e] at hp
  exact h _ hp k1 k2
theorem ldN (T : TypeId) {d : TypeDesc} (hu : P.underlying T = some d) (hd : d.isRow = true) (x : Operand) (g : Nat) (vs : List Value) (t : TypeId) (hT : (P.info? T).map (·.size) = some vs.length) (hgd : o.guard = none) (ho : o.op = .load T x)
    (hx : a.eval x = .pointer (some ⟨g, 0, none⟩)) (hb : Box w g t vs.toArray)
    (h : wpList P ops Q rest (a.put o.dst (.agg vs.toArray)) w) : wpList P ops Q (o :: rest) a w :=
  wpList_load_mid hgd T x ho g 0 hx vs _ (hb.rangeN 0 vs (by simp)) hu hd hT h
end
end Go.Proofs.YtgkmfblmkfclbaaGreatDoor
