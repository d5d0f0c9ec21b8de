/- block.Encode: the bytes of a block, or an error. -/
import Derived.Test.YtgkmfblmkfclbaaGreatDoorBlockSoundP12
import Derived.Test.YtgkmfblmkfclbaaGreatDoorBlockSoundP16
import Derived.Test.YtgkmfblmkfclbaaGreatDoorBlockSoundP13
namespace Go.Proofs.YtgkmfblmkfclbaaGreatDoor
open Go.RowKit Pl

def blockL : List Nat := [98, 108, 111, 99, 107]
theorem blockL_bytes : Bytes blockL := by intro x hx; simp [blockL] at hx; omega
theorem sum_any (v : Value) (bs : List Nat) (w : World) (h : Rd w w.heap.size v (bs.map vb)) (hbb : Bytes bs) (hl : bs.length ≤ 1000000) :
    Calls Tryz.prog 36 #[v] w fun e w' => e = .returned (.int .u64 (hashB blockL bs : Nat)) ∧ Grew w w' := by
  have HH := Lib.hid (hbytes_any ⟨#[98, 108, 111, 99, 107]⟩ blockL v bs w rfl blockL_bytes (by decide) h hbb hl)
  obtain ⟨A, n, c, rfl, hn, hc⟩ := h.form
  clear h hn
  generalize hashB blockL bs = hv at *
  go_enter Tryz.func36, Tryz.ntmps36
  go_wp2_with fail
  refine HH.out.mono ?_
  rintro e w2 ⟨rfl, k⟩
  go_wp2_with fail
  go_ret
  exact ⟨rfl, k⟩

def coreB (x : Clm) (cb : List Nat) : List Nat := vint (zig x.1) ++ vint (zig x.2.1) ++ vint (zig x.2.2.1) ++ vint (zig x.2.2.2) ++ rawB cb
def wholeB (core : List Nat) : List Nat := rawB core ++ vint (hashB blockL core)
theorem bytes_app {a b : List Nat} (ha : Bytes a) (hb : Bytes b) : Bytes (a ++ b) := fun x hx => by
  rcases List.mem_append.1 hx with h | h
  · exact ha x h
  · exact hb x h
theorem rawB_bytes {b : List Nat} (h : Bytes b) : Bytes (rawB b) := bytes_app (vint_bytes _) h
theorem coreB_bytes (x : Clm) {cb : List Nat} (h : Bytes cb) : Bytes (coreB x cb) := bytes_app (bytes_app (bytes_app (bytes_app (vint_bytes _) (vint_bytes _)) (vint_bytes _)) (vint_bytes _)) (rawB_bytes h)
def bEncE (x : Clm) (cs : List Clm) : Int := if okB x then encE cs else 1
def bEncB (x : Clm) (cs : List Clm) : List Nat := if bEncE x cs = 0 then wholeB (coreB x (pack (cbits cs))) else []
theorem okB_i64 {x : Clm} (h : okB x) : I64 x.1 ∧ I64 x.2.1 ∧ I64 x.2.2.1 ∧ I64 x.2.2.2 := by
  unfold okB at h
  have h1 : pHi x.2.1.toNat ≤ 1073741824 := by unfold pHi; repeat (split <;> try omega)
  have h2 : 0 ≤ pLo x.2.1.toNat := by unfold pLo; split <;> omega
  unfold I64; omega
theorem Box.keepWW {w w' : World} {base g k : Nat} {v : Value} {bs : List Nat} {t : TypeId} {cs : Array Value} (hb : Box w k t cs) (hW : WW w base g v bs) (hk : KeepsW g v w w') (hne : k ≠ g) (ht : t ≠ 5) : Box w' k t cs :=
  hb.keep hk fun e => by
    rcases e with e | e
    · exact hne e
    · exact hW.2.ne_box e hb (fun e => ht e.symm) rfl
theorem Mine.keepWW {w w' : World} {base' g : Nat} {v u : Value} {xs : List Value} (hm : Mine w base' 5 u xs) (hk : KeepsW g v w w') (hu : ∀ k, u.ownBlock = some k → k ≠ g ∧ v.ownBlock ≠ some k) : Mine w' base' 5 u xs :=
  hm.keep hk fun k h e => by
    rcases e with e | e
    · exact (hu k h).1 e
    · exact (hu k h).2 e
theorem KeepsW.grewW {w0 w w' : World} {base g : Nat} {v : Value} {bs : List Nat} (h0 : Grew w0 w) (hk : KeepsW g v w w') (hW : WW w base g v bs) (hg : w0.heap.size ≤ g) (hb : w0.heap.size ≤ base) : Grew w0 w' :=
  Keeps.then_ h0 hk fun i hi e => by
    rcases e with rfl | e
    · omega
    · have := (hW.2.lt i e).1; omega
/- a row that is none of a writer's -/
def Off2 (u : Value) (g : Nat) (v : Value) : Prop := ∀ k, u.ownBlock = some k → k ≠ g ∧ v.ownBlock ≠ some k
theorem off2_of {u v : Value} {w : World} {B g : Nat} {bs : List Nat} (h : ∀ k, u.ownBlock = some k → k < B) (hW : WW w B g v bs) (hg : B ≤ g := by omega) : Off2 u g v := fun k e =>
  ⟨by have := h k e; omega, fun e2 => by have := h k e; have := (hW.2.lt k e2).1; omega⟩
/- what Encode of a block does -/
def BEncPost (x : Clm) (cs : List Clm) (w : World) (e : Ending) (w' : World) : Prop :=
  ∃ v, e = .returned (.tuple #[v, .int .i64 (bEncE x cs)]) ∧ Mine w' w.heap.size 5 v ((bEncB x cs).map vb) ∧ Grew w w'

set_option maxHeartbeats 12800000 in
set_option maxRecDepth 100000 in
theorem bencode_any (x : Clm) (v : Value) (cs : List Clm) (w : World) (h : RdC w w.heap.size v cs) (hl : cs.length ≤ 1000000000) (ht : Tab w w.heap.size) (hp : PTab w w.heap.size) :
    Calls Tryz.prog 10 #[vbl x v] w (BEncPost x cs w) := by
  obtain ⟨A, n, c, rfl, hn, hc⟩ := h.form
  have H := Lib.hid h
  have HT := Lib.hid ht
  have HP := Lib.hid hp
  clear h ht hp hn
  unfold vbl
  have hb0 := Box.new w 39 #[.int .i64 x.1, .int .i64 x.2.1, .int .i64 x.2.2.1, .int .i64 x.2.2.2, .slice A n c]
  have hG0 : Grew w (w.alloc (.cells #[.int .i64 x.1, .int .i64 x.2.1, .int .i64 x.2.2.1, .int .i64 x.2.2.2, .slice A n c] 39)) := (Grew.refl w).alloc _
  have hVa := valid_any x A n c (w.alloc (.cells #[.int .i64 x.1, .int .i64 x.2.1, .int .i64 x.2.2.1, .int .i64 x.2.2.2, .slice A n c] 39)) (HP.out.on hG0)
  unfold vbl at hVa
  have HVa := Lib.hid hVa
  have HB0 := Lib.hid hb0
  have HG0 := Lib.hid hG0
  clear hVa hb0 hG0
  by_cases hok : okB x
  · have hD : decide (okB x) = true := decide_eq_true hok
    have HD := Lib.hid hD
    have hE : bEncE x cs = encE cs := by unfold bEncE; rw [if_pos hok]
    have HE := Lib.hid hE
    obtain ⟨i0, i1, i2, i3⟩ := okB_i64 hok
    clear hD hE hok
    go_enter Tryz.func10, Tryz.ntmps10
    go_wp2_with fail
    refine HVa.out.mono ?_
    rintro e w2 ⟨rfl, k2⟩
    rw [HD.out]
    have hG2 := HG0.out.trans k2
    have hb2 := HB0.out.grew k2
    have c4 : w2.cell? ⟨w.heap.size, 4, none⟩ = some (.slice A n c) := hb2.cell 4
    have HEn := Lib.hid (encode_any _ cs w2 ((H.out.grew (Nat.le_refl _) hG2).more hG2.size) hl (HT.out.on hG2))
    clear HVa HD k2
    by_cases hz : encE cs = 0
    · have hBB : bEncB x cs = wholeB (coreB x (pack (cbits cs))) := by unfold bEncB; rw [HE.out, if_pos hz]
      have HBB := Lib.hid hBB
      have HZ := Lib.hid hz
      have hcl : (pack (cbits cs)).length ≤ 200000 := by have := encB_len cs; rw [encB_ok hz] at this; exact this
      clear hBB
      go_wp2_with fail
      refine HEn.out.mono ?_
      rintro e w4 ⟨p1, ⟨-, vc, rfl, p2⟩ | ⟨p2, -⟩⟩
      rotate_left
      · exact absurd hz p2
      clear hz HEn
      have hG4 := hG2.trans p1
      have hb4 := hb2.grew p1
      obtain ⟨Ac, nc, cc, rfl, -⟩ := p2.slice
      have hkc : ∀ k, (Value.slice Ac nc cc).ownBlock = some k → k < w4.heap.size := fun k e => (p2.lt k e).2
      have HKC := Lib.hid hkc
      have hs4 := hG4.size
      have hlt4 : w.heap.size < w4.heap.size := hb4.lt
      have hI0 : WW ((w4.alloc (.cells #[.slice none 0 0] 62)).alloc (.cells #[.slice none 0 0] 62)) w4.heap.size w4.heap.size (.slice none 0 0) [] := ⟨(Box.new w4 _ _).alloc _, Mine.nil _ _ _⟩
      have hO0 : WW ((w4.alloc (.cells #[.slice none 0 0] 62)).alloc (.cells #[.slice none 0 0] 62)) w4.heap.size (w4.heap.size + 1) (.slice none 0 0) [] := by
        have := Box.new (w4.alloc (.cells #[.slice none 0 0] 62)) 62 #[.slice none 0 0]
        rw [World.size_alloc] at this
        exact ⟨this, Mine.nil _ _ _⟩
      have hb5 := (hb4.alloc (.cells #[.slice none 0 0] 62)).alloc (.cells #[.slice none 0 0] 62)
      have hp5 := (p2.alloc (.cells #[.slice none 0 0] 62)).alloc (.cells #[.slice none 0 0] 62)
      have hG5 := (hG4.alloc (.cells #[.slice none 0 0] 62)).alloc (.cells #[.slice none 0 0] 62)
      have hsz5 : ((w4.alloc (.cells #[.slice none 0 0] 62)).alloc (.cells #[.slice none 0 0] 62)).heap.size = w4.heap.size + 2 := by simp
      have f50 := hb5.cell 0
      simp only [List.getElem?_toArray, List.getElem?_cons_zero] at f50
      have hbase : w4.heap.size ≤ ((w4.alloc (.cells #[.slice none 0 0] 62)).alloc (.cells #[.slice none 0 0] 62)).heap.size := by omega
      have HW0 := Lib.hid (wint_any w4.heap.size w4.heap.size _ [] x.1 _ hI0 i0 (by simp) hbase)
      have X0 := Lib.hid hI0
      have Y0 := Lib.hid hO0
      have Z0 := Lib.hid hb5
      have P0 := Lib.hid hp5
      have G0 := Lib.hid hG5
      clear hI0 hO0 hb5 hp5 hG5 hsz5 hbase p1 p2 hb2 hG2 hb4 hG4 c4 HB0 HG0
      go_wp2_with fail
      refine HW0.out.mono ?_
      rintro e wi0 ⟨rfl, u0, a0, b0, m0⟩
      have hN0 : Off2 (.slice Ac nc cc) w4.heap.size u0 := off2_of HKC.out a0
      have X1 := Lib.hid a0
      have Y1 := Lib.hid (show WW wi0 w4.heap.size (w4.heap.size + 1) (.slice none 0 0) [] from ⟨Y0.out.1.keepWW X0.out b0 (by omega) (by decide), Mine.nil _ _ _⟩)
      have Z1 := Lib.hid (Z0.out.keepWW X0.out b0 (by omega) (by decide))
      have P1 := Lib.hid (P0.out.keepWW b0 (fun k e => ⟨by have := HKC.out k e; omega, by intro e2; cases e2⟩))
      have G1 := Lib.hid (b0.grewW G0.out X0.out (by omega) (by omega))
      have sz0 := Z1.out.lt
      have sb0 : w4.heap.size ≤ wi0.heap.size := Nat.le_of_lt (Nat.lt_of_lt_of_le X1.out.1.lt (Nat.le_refl _))
      have f1 : wi0.cell? ⟨w.heap.size, 1, none⟩ = some (.int .i64 x.2.1) := Z1.out.cell 1
      have HW1 := Lib.hid (wint_any w4.heap.size w4.heap.size u0 _ x.2.1 wi0 a0 i1 (by simp only [List.length_append, List.length_nil]; have := vint_len10 (zig_lt i0); have := vint_len10 (zig_lt i1); have := vint_len10 (zig_lt i2); omega) sb0)
      clear HW0 a0 b0 m0
      go_wp2_with fail
      refine HW1.out.mono ?_
      rintro e wi1 ⟨rfl, u1, a1, b1, m1⟩
      have hN1 : Off2 (.slice Ac nc cc) w4.heap.size u1 := off2_of HKC.out a1
      have X2 := Lib.hid a1
      have Y2 := Lib.hid (show WW wi1 w4.heap.size (w4.heap.size + 1) (.slice none 0 0) [] from ⟨Y1.out.1.keepWW X1.out b1 (by omega) (by decide), Mine.nil _ _ _⟩)
      have Z2 := Lib.hid (Z1.out.keepWW X1.out b1 (by omega) (by decide))
      have P2 := Lib.hid (P1.out.keepWW b1 hN0)
      have G2 := Lib.hid (b1.grewW G1.out X1.out (by omega) (by omega))
      have sz1 := Z2.out.lt
      have sb1 : w4.heap.size ≤ wi1.heap.size := Nat.le_of_lt (Nat.lt_of_lt_of_le X2.out.1.lt (Nat.le_refl _))
      have f2 : wi1.cell? ⟨w.heap.size, 2, none⟩ = some (.int .i64 x.2.2.1) := Z2.out.cell 2
      have HW2 := Lib.hid (wint_any w4.heap.size w4.heap.size u1 _ x.2.2.1 wi1 a1 i2 (by simp only [List.length_append, List.length_nil]; have := vint_len10 (zig_lt i0); have := vint_len10 (zig_lt i1); have := vint_len10 (zig_lt i2); omega) sb1)
      clear HW1 a1 b1 m1
      go_wp2_with fail
      refine HW2.out.mono ?_
      rintro e wi2 ⟨rfl, u2, a2, b2, m2⟩
      have hN2 : Off2 (.slice Ac nc cc) w4.heap.size u2 := off2_of HKC.out a2
      have X3 := Lib.hid a2
      have Y3 := Lib.hid (show WW wi2 w4.heap.size (w4.heap.size + 1) (.slice none 0 0) [] from ⟨Y2.out.1.keepWW X2.out b2 (by omega) (by decide), Mine.nil _ _ _⟩)
      have Z3 := Lib.hid (Z2.out.keepWW X2.out b2 (by omega) (by decide))
      have P3 := Lib.hid (P2.out.keepWW b2 hN1)
      have G3 := Lib.hid (b2.grewW G2.out X2.out (by omega) (by omega))
      have sz2 := Z3.out.lt
      have sb2 : w4.heap.size ≤ wi2.heap.size := Nat.le_of_lt (Nat.lt_of_lt_of_le X3.out.1.lt (Nat.le_refl _))
      have f3 : wi2.cell? ⟨w.heap.size, 3, none⟩ = some (.int .i64 x.2.2.2) := Z3.out.cell 3
      have HW3 := Lib.hid (wint_any w4.heap.size w4.heap.size u2 _ x.2.2.2 wi2 a2 i3 (by simp only [List.length_append, List.length_nil]; have := vint_len10 (zig_lt i0); have := vint_len10 (zig_lt i1); have := vint_len10 (zig_lt i2); omega) sb2)
      clear HW2 a2 b2 m2
      go_wp2_with fail
      refine HW3.out.mono ?_
      rintro e wi3 ⟨rfl, u3, a3, b3, m3⟩
      have hN3 : Off2 (.slice Ac nc cc) w4.heap.size u3 := off2_of HKC.out a3
      have X4 := Lib.hid a3
      have Y4 := Lib.hid (show WW wi3 w4.heap.size (w4.heap.size + 1) (.slice none 0 0) [] from ⟨Y3.out.1.keepWW X3.out b3 (by omega) (by decide), Mine.nil _ _ _⟩)
      have Z4 := Lib.hid (Z3.out.keepWW X3.out b3 (by omega) (by decide))
      have P4 := Lib.hid (P3.out.keepWW b3 hN2)
      have G4 := Lib.hid (b3.grewW G3.out X3.out (by omega) (by omega))
      have sz3 := Z4.out.lt
      have sb3 : w4.heap.size ≤ wi3.heap.size := Nat.le_of_lt (Nat.lt_of_lt_of_le X4.out.1.lt (Nat.le_refl _))
      have hln : ([] ++ vint (zig x.1) ++ vint (zig x.2.1) ++ vint (zig x.2.2.1) ++ vint (zig x.2.2.2)).length ≤ 40 := by
        simp only [List.length_append, List.length_nil]
        have := vint_len10 (zig_lt i0); have := vint_len10 (zig_lt i1); have := vint_len10 (zig_lt i2); have := vint_len10 (zig_lt i3); omega
      have HRw := Lib.hid (wraw_any w4.heap.size w4.heap.size u3 (.slice Ac nc cc) _ (pack (cbits cs)) wi3 a3 P4.out.rd hN3 (by omega) (by omega) sb3)
      clear HW3 b3 m3
      go_wp2_with fail
      refine HRw.out.mono ?_
      rintro e w5 ⟨rfl, u4, a4, b4, m4⟩
      have hcore : [] ++ vint (zig x.1) ++ vint (zig x.2.1) ++ vint (zig x.2.2.1) ++ vint (zig x.2.2.2) ++ rawB (pack (cbits cs)) = coreB x (pack (cbits cs)) := by unfold coreB; rw [List.nil_append]
      rw [hcore] at a4
      have hcl2 : (coreB x (pack (cbits cs))).length ≤ 300000 := by
        have hraw : (rawB (pack (cbits cs))).length ≤ 200010 := by
          unfold rawB
          rw [List.length_append]
          have := vint_len10 (n := (pack (cbits cs)).length) (by omega)
          omega
        rw [← hcore, List.length_append]
        omega
      have HCB := Lib.hid (coreB_bytes x (pack_bytes (cbits cs)))
      have Y5 : WW w5 w4.heap.size (w4.heap.size + 1) (.slice none 0 0) [] := ⟨Y4.out.1.keepWW X4.out b4 (by omega) (by decide), Mine.nil _ _ _⟩
      have G5 := b4.grewW G4.out X4.out (by omega) (by omega)
      have s5 : w4.heap.size ≤ w5.heap.size := Nat.le_trans sb3 b4.size
      have HDn := Lib.hid (wwdone_any w4.heap.size w4.heap.size u4 _ w5 a4 (by omega))
      clear hcore hln HRw b4 m4 X0 X1 X2 X3 X4 Y0 Y1 Y2 Y3 Y4 Z0 Z1 Z2 Z3 Z4 P0 P1 P2 P3 P4 a3 hN0 hN1 hN2 hN3
      generalize coreB x (pack (cbits cs)) = core at *
      go_wp2_with fail
      refine HDn.out.mono ?_
      rintro e w6 ⟨v6, rfl, d1, d2⟩
      obtain ⟨A6, n6, c6, rfl, -⟩ := d1.slice
      have Y6 : WW w6 w4.heap.size (w4.heap.size + 1) (.slice none 0 0) [] := ⟨Y5.1.grew d2, Y5.2.grew d2⟩
      have G6 := G5.trans d2
      have s6 : w4.heap.size ≤ w6.heap.size := Nat.le_trans s5 d2.size
      have hg7 := Y5.1.lt
      have hN6 : Off2 (.slice A6 n6 c6) (w4.heap.size + 1) (.slice none 0 0) := fun k e => ⟨by have := (d1.lt k e).1; omega, fun e2 => by cases e2⟩
      have HRw2 := Lib.hid (wraw_any (w4.heap.size + 1) w4.heap.size _ (.slice A6 n6 c6) [] core w6 Y6 d1.rd hN6 (by simp) (by omega) s6)
      clear HDn Y5 G5 a4
      go_wp2_with fail
      refine HRw2.out.mono ?_
      rintro e w7 ⟨rfl, u7, a7, b7, m7⟩
      have d7 := d1.keepWW b7 hN6
      have G7 := b7.grewW G6 Y6 (by omega) (by omega)
      have s7 : w4.heap.size ≤ w7.heap.size := Nat.le_trans s6 b7.size
      have HSm := Lib.hid (sum_any _ core w7 d7.rd HCB.out (by omega))
      have hhl := hashB_lt blockL core
      have HWB := Lib.hid (show wholeB core = [] ++ rawB core ++ vint (hashB blockL core) by unfold wholeB; rw [List.nil_append])
      generalize hashB blockL core = hv at *
      have hrl : (rawB core).length ≤ 400000 := by
        unfold rawB
        rw [List.length_append]
        have := vint_len10 (n := core.length) (by omega)
        omega
      clear HRw2 Y6 G6 b7 m7
      go_wp2_with fail
      refine HSm.out.mono ?_
      rintro e w8 ⟨rfl, g8⟩
      have a8 : WW w8 w4.heap.size (w4.heap.size + 1) u7 ([] ++ rawB core) := ⟨a7.1.grew g8, a7.2.grew g8⟩
      have G8 := G7.trans g8
      have s8 : w4.heap.size ≤ w8.heap.size := Nat.le_trans s7 g8.size
      have HU := Lib.hid (wuint_any (w4.heap.size + 1) w4.heap.size u7 _ hv w8 a8 hhl (by rw [List.nil_append]; omega) s8)
      clear HSm a7 G7
      go_wp2_with fail
      refine HU.out.mono ?_
      rintro e w9 ⟨rfl, u9, a9, b9, m9⟩
      rw [← HWB.out] at a9
      have G9 := b9.grewW G8 a8 (by omega) (by omega)
      have hwl : (wholeB core).length < 1099511627776 := by
        rw [HWB.out, List.nil_append, List.length_append]
        have := vint_len10 hhl
        omega
      have HDn2 := Lib.hid (wwdone_any (w4.heap.size + 1) w4.heap.size u9 _ w9 a9 hwl)
      clear HU a8 b9 m9 G8
      go_wp2_with fail
      refine HDn2.out.mono ?_
      rintro e wa ⟨va, rfl, e1, e2⟩
      go_wp2_with fail
      go_ret2
      refine ⟨_, by rw [HE.out, HZ.out]; rfl, ?_, G9.trans e2⟩
      rw [HBB.out]
      exact e1.base_le G9.size
    · have hBB : bEncB x cs = [] := by unfold bEncB; rw [HE.out, if_neg hz]
      have HBB := Lib.hid hBB
      have tE : (encE cs != 0) = true := by rw [bne_iff_ne]; exact hz
      clear hBB
      go_wp2_with fail
      refine HEn.out.mono ?_
      rintro e w4 ⟨p1, ⟨p2, -⟩ | ⟨-, rfl⟩⟩
      · exact absurd p2 hz
      clear hz HEn
      have hG4 := hG2.trans p1
      go_wp2_with fail
      go_ret2
      exact ⟨_, by rw [HE.out]; rfl, by rw [HBB.out]; exact Mine.nil _ _ _, hG4⟩
  · have hD : decide (okB x) = false := decide_eq_false hok
    have HD := Lib.hid hD
    have hE : bEncE x cs = 1 := by unfold bEncE; rw [if_neg hok]
    have hBB : bEncB x cs = [] := by unfold bEncB; rw [hE, if_neg (by decide)]
    have HE := Lib.hid hE
    have HBB := Lib.hid hBB
    clear hD hE hok hBB
    go_enter Tryz.func10, Tryz.ntmps10
    go_wp2_with fail
    refine HVa.out.mono ?_
    rintro e w2 ⟨rfl, k2⟩
    rw [HD.out]
    have hG2 := HG0.out.trans k2
    go_wp2_with fail
    go_ret2
    exact ⟨_, by rw [HE.out]; rfl, by rw [HBB.out]; exact Mine.nil _ _ _, hG2⟩
end Go.Proofs.YtgkmfblmkfclbaaGreatDoor
