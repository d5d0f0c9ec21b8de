/- lossy.below. lossy.Quantise. law18.kinds. -/
import Derived.Test.YtgkmfblmkfclbaaGreatDoorBlockSoundP26
import Derived.Test.YtgkmfblmkfclbaaGreatDoorBlockSoundP40
import Derived.Test.YtgkmfblmkfclbaaGreatDoorBlockSoundP32
import Derived.Test.YtgkmfblmkfclbaaGreatDoorBlockSoundP41
import Derived.Test.YtgkmfblmkfclbaaGreatDoorBlockSoundP43
namespace Go.Proofs.YtgkmfblmkfclbaaGreatDoor
open Go.RowKit Pl

theorem tmod_below (n q : Int) (h : 1 ≤ q) : (n.tmod q < 0 → n % q = n.tmod q + q) ∧ (¬ n.tmod q < 0 → n % q = n.tmod q) ∧ -q < n.tmod q ∧ n.tmod q < q := by
  have h1 := Int.emod_nonneg n (b := q) (by omega)
  have h2 := Int.emod_lt_of_pos n (b := q) (by omega)
  have e := Int.tmod_eq_emod (a := n) (b := q)
  have hq : ((q.natAbs : Nat) : Int) = q := by omega
  by_cases hc : 0 ≤ n ∨ q ∣ n
  · rw [if_pos hc] at e
    omega
  · rw [if_neg hc] at e
    have hne : n % q ≠ 0 := fun h0 => hc (.inr (Int.dvd_of_emod_eq_zero h0))
    omega
set_option maxHeartbeats 1600000 in
theorem below_any (n q : Int) (w : World) (h1 : 1 ≤ q) (h2 : q ≤ 1073741824) (h3 : -2199023255552 ≤ n) (h4 : n ≤ 2199023255552) :
    Calls Tryz.prog 55 #[.int .i64 n, .int .i64 q] w fun e w' => e = .returned (.int .i64 (belowI n q)) ∧ w' = w := by
  obtain ⟨t1, t2, t3, t4⟩ := tmod_below n q h1
  have hq : ¬ q = 0 := by omega
  have T1 := Lib.hid t1
  have T2 := Lib.hid t2
  clear t1 t2
  by_cases hr : n.tmod q < 0
  · have HV := Lib.hid (show belowI n q = n - (n.tmod q + q) from by unfold belowI; rw [T1.out hr])
    have tr : decide (n.tmod q < 0) = true := by simpa using hr
    go_enter Tryz.func55, Tryz.ntmps55
    go_wp2
    go_ret
    exact ⟨by rw [HV.out]; rfl, rfl⟩
  · have HV := Lib.hid (show belowI n q = n - n.tmod q from by unfold belowI; rw [T2.out hr])
    have tr : decide (n.tmod q < 0) = false := by simpa using hr
    go_enter Tryz.func55, Tryz.ntmps55
    go_wp2
    go_ret
    exact ⟨by rw [HV.out]; rfl, rfl⟩
end Go.Proofs.YtgkmfblmkfclbaaGreatDoor
namespace Go.Proofs.YtgkmfblmkfclbaaGreatDoor
open Go.RowKit Pl

/- the first claims are widened, the others as they were -/
def mixC (q : Int) (cs : List Clm) (i : Nat) : List Clm := (cs.take i).map (widC q) ++ cs.drop i
theorem mixC_zero (q : Int) (cs : List Clm) : mixC q cs 0 = cs := by simp [mixC]
theorem mixC_len (q : Int) (cs : List Clm) {i : Nat} (h : i ≤ cs.length) : (mixC q cs i).length = cs.length := by simp [mixC]; omega
theorem mixC_all (q : Int) (cs : List Clm) : mixC q cs cs.length = cs.map (widC q) := by simp [mixC]
theorem mixC_at (q : Int) (cs : List Clm) {i : Nat} (h : i < cs.length) : (mixC q cs i).getD i zc = cs.getD i zc := by
  unfold mixC
  rw [List.getD_eq_getElem?_getD, List.getElem?_append_right (by simp; omega)]
  simp [List.length_take, Nat.min_eq_left (Nat.le_of_lt h)]
theorem mixC_next (q : Int) (cs : List Clm) {i : Nat} (h : i < cs.length) : (mixC q cs i).set i (widC q (cs.getD i zc)) = mixC q cs (i + 1) := by
  unfold mixC
  rw [List.set_append_right _ _ (by simp; omega)]
  have hl : ((cs.take i).map (widC q)).length = i := by simp; omega
  have e : List.take (i + 1) cs = List.take i cs ++ [cs[i]] := by rw [List.take_add_one, List.getElem?_eq_getElem h]; rfl
  have e2 : cs.getD i zc = cs[i] := by rw [List.getD_eq_getElem?_getD, List.getElem?_eq_getElem h]; rfl
  rw [hl, Nat.sub_self, List.drop_eq_getElem_cons h, List.set_cons_zero, e, e2, List.map_append, List.map_cons, List.map_nil, List.append_assoc, List.singleton_append]
theorem widC_set (q : Int) (c : Clm) : setC (setC c 2 (max (belowI c.2.2.1 q) (-1099511627776))) 3 (min (-(belowI (-c.2.2.2) q)) 1099511627776) = widC q c := rfl
theorem wid_two (q : Int) (cs : List Clm) {i : Nat} (h : i < cs.length) :
    ((mixC q cs i).set i (setC ((mixC q cs i).getD i zc) 2 (max (belowI (cs.getD i zc).2.2.1 q) (-1099511627776)))).set i
      (setC (((mixC q cs i).set i (setC ((mixC q cs i).getD i zc) 2 (max (belowI (cs.getD i zc).2.2.1 q) (-1099511627776)))).getD i zc) 3 (min (-(belowI (-(cs.getD i zc).2.2.2) q)) 1099511627776)) = mixC q cs (i + 1) := by
  have hl := mixC_len q cs (Nat.le_of_lt h)
  rw [List.set_set]
  have e : ((mixC q cs i).set i (setC ((mixC q cs i).getD i zc) 2 (max (belowI (cs.getD i zc).2.2.1 q) (-1099511627776)))).getD i zc = setC ((mixC q cs i).getD i zc) 2 (max (belowI (cs.getD i zc).2.2.1 q) (-1099511627776)) := by
    rw [List.getD_eq_getElem?_getD, List.getElem?_set_self (by omega)]; rfl
  rw [e, mixC_at q cs h, widC_set, mixC_next q cs h]

set_option maxHeartbeats 6400000 in
set_option maxRecDepth 100000 in
theorem quantise_any (nm : ByteArray) (A : Option Addr) (n c : Nat) (ls : List (ByteArray × ByteArray)) (x : Fin 10 → Int) (v : Value) (cs : List Clm) (q : Int) (w : World) (hnm : Low nm) (hL : RdL w (.slice A n c) ls) (hls : GoodL ls) (hx : GoodD x) (hr : RdC w w.heap.size v cs) (hv : ∀ c ∈ cs, ValidC x c) (hl : cs.length + spanD x ≤ 4096) (hc : clashB x (spanD x) cs = false) (hq1 : 1 ≤ q) (hq2 : q ≤ 1000) :
    Calls Tryz.prog 29 #[vdecl nm (.slice A n c) x, v, .int .i64 q] w (CompPost x (spanD x) cs w) := by
  have HN := Lib.hid (fun w' (g : Grew w w') => new_ok nm A n c ls x v cs w' hnm (hL.grew g) hls hx ((hr.grew (Nat.le_refl _) g).more g.size) hv (by omega) hc)
  have HCl := Lib.hid (fun w' (g : Grew w w') => cclone_any v cs w' ((hr.grew (Nat.le_refl _) g).more g.size) (by omega))
  have HF := Lib.hid (fun w' (g : Grew w w') (u : Value) (hu : RdC w' w'.heap.size u (cs.map (widC q))) => finish_any nm A n c ls x v u cs (cs.map (widC q)) w' hnm (hL.grew g) hls hx ((hr.grew (Nat.le_refl _) g).more g.size) hv hl hc hu (fun d hd => by
    obtain ⟨e, he, rfl⟩ := List.mem_map.1 hd
    obtain ⟨h1, h2⟩ := old_implied hx hv hc e he
    exact widC_ok hq1 h1 h2) (by simp))
  have HBe := Lib.hid (fun (m : Int) (w' : World) (h3 : -2199023255552 ≤ m) (h4 : m ≤ 2199023255552) => below_any m q w' hq1 (by omega) h3 h4)
  have HR := Lib.hid hr
  have HV := Lib.hid hv
  have hbd : Box (w.alloc (.cells (cells12 nm (.slice A n c) x).toArray 27)) w.heap.size 27 (cells12 nm (.slice A n c) x).toArray := Box.new _ _ _
  have hG0 := (Grew.refl w).alloc (.cells (cells12 nm (.slice A n c) x).toArray 27)
  obtain ⟨A1, m1, q1, rfl, hm1, -⟩ := hr.form
  have hml : m1 ≤ 4096 := by omega
  have HM := Lib.hid hm1
  generalize hNN : spanD x = N at *
  generalize hEE : boundE x N cs = E at *
  clear hr hv hc hL hls hx hnm hNN hl hm1 hEE
  rw [vdecl_cells]
  rw [vdecl_cells] at HN HF
  have tq1 : decide (q < 1) = false := by simp; omega
  have tq2 : decide (1073741824 < q) = false := by simp; omega
  go_enter Tryz.func29, Tryz.ntmps29
  go_upto_region 1 with fail
  generalize w.alloc (.cells (cells12 nm (.slice A n c) x).toArray 27) = w1 at *
  go_wp2_with (refine ldN 27 Tryz.underlying27 rfl (.tmp 3) w.heap.size (cells12 nm (.slice A n c) x) 27 info12 rfl rfl rfl hbd ?_)
  refine (HN.out w1 hG0).mono ?_
  rintro e w2 ⟨B, p, C, qq, rfl, -, -, k2⟩
  have hb2 := hbd.grew k2
  have hG2 := hG0.trans k2
  clear hbd hG0 HN k2
  unfold venv cells3
  go_upto_region 6 with fail
  have ga := (Grew.refl w2).alloc (.cells #[.int .i64 (x 7), .slice B N p, .slice C N qq] 32)
  have hb3 := hb2.grew ga
  have hG3 := hG2.trans ga
  generalize w2.alloc (.cells #[.int .i64 (x 7), .slice B N p, .slice C N qq] 32) = w3 at *
  clear ga hb2 hG2
  go_wp2_with fail
  refine (HCl.out w3 hG3).mono ?_
  rintro e w4 ⟨v4, rfl, m4, k4⟩
  have hb4 := hb3.grew k4
  have hG4 := hG3.trans k4
  obtain ⟨A4, n4, q4, rfl, hn4, -⟩ := m4.slice
  obtain rfl : n4 = m1 := by rw [hn4, HM.out]
  have HM4 := Lib.hid (m4.base_le hG3.size)
  have HB4 := Lib.hid hb4
  have HG4 := Lib.hid hG4
  clear hb3 HCl k4 m4 hn4 hb4 hG4 hG3
  go_wp2_with fail
  go_loopw [32] (fun i wr => ∃ j : Nat, j ≤ n4 ∧ i = .int .i64 j ∧ MineC wr w.heap.size (.slice A4 n4 q4) (mixC q cs j) ∧ Box wr w.heap.size 27 (cells12 nm (.slice A n c) x).toArray ∧ Grew w wr) (fun i _ => n4 - (intOf i).toNat)
  case atStart => exact ⟨0, by omega, rfl, by rw [mixC_zero]; exact HM4.out, HB4.out, HG4.out⟩
  case round =>
    clear HM4 HB4 HG4
    obtain ⟨j, hj, rfl, hM, hB, hG⟩ := hrel
    by_cases hlt : j < n4
    · have hjl : j < cs.length := by rw [← HM.out]; exact hlt
      obtain ⟨b, o, rfl, hbb, hcell⟩ := (HR.out.grew (Nat.le_refl _) hG).at_ hjl
      have c2 : wr.cell? ⟨b, o + j * 4 + 2, none⟩ = some (.int .i64 (cs.getD j zc).2.2.1) := hcell 2 _ rfl
      have c3 : wr.cell? ⟨b, o + j * 4 + 3, none⟩ = some (.int .i64 (cs.getD j zc).2.2.2) := hcell 3 _ rfl
      have hml' := mixC_len q cs (Nat.le_of_lt hjl)
      obtain ⟨g, rfl, hgb, hgl⟩ := hM.some_ (by omega)
      obtain ⟨y0, y1, y2, y3⟩ := hM.at_ (j := j) (by omega)
      have f2 := hM.free (j * 4 + 2)
      have f3 := hM.free (j * 4 + 3)
      have hT := wid_two q cs hjl
      have hV : ValidC x (cs.getD j zc) := HV.out _ (by rw [List.getD_eq_getElem?_getD, List.getElem?_eq_getElem hjl]; exact List.getElem_mem hjl)
      obtain ⟨-, -, -, v4, v5, v6⟩ := hV
      have HC3 := Lib.hid c3
      have HB := Lib.hid hB
      have HG := Lib.hid hG
      have HMl := Lib.hid hml'
      have hp := hM.put (j := j) (k := 2) (by omega) (by omega) (max (belowI (cs.getD j zc).2.2.1 q) (-1099511627776))
      have HT := Lib.hid hT
      have HP := Lib.hid hp
      have HMM := Lib.hid hM
      obtain ⟨d, hd⟩ : ∃ d, cs.getD j zc = d := ⟨_, rfl⟩
      rw [hd] at v4 v5 v6 c2 HC3 HT HP
      have HD := Lib.hid hd
      have HB1 := Lib.hid (HBe.out d.2.2.1 wr (by omega) (by omega))
      clear hcell c3 hB hG hml' hp hT hM hd
      go_wp2_with fail
      refine HB1.out.mono ?_
      rintro e w' ⟨rfl, hw'⟩
      rw [hw']; clear hw' w'
      generalize belowI d.2.2.1 q = z1 at *
      go_upto_region 11 with fail
      try rw [max_if]
      have hne : g ≠ w.heap.size := HMM.out.ne_box rfl HB.out (by decide)
      have hM5 := HP.out
      have hB5 := HB.out.far (p := ⟨g, j * 4 + 2, none⟩) (Ne.symm hne) (.int .i64 (max z1 (-1099511627776)))
      have hG5 : Grew w (wr.setCell ⟨g, j * 4 + 2, none⟩ (.int .i64 (max z1 (-1099511627776)))) := Keeps.then_ HG.out (MineC.put_keeps g _ _ wr) (fun i hi e => by omega)
      generalize hWW : wr.setCell ⟨g, j * 4 + 2, none⟩ (.int .i64 (max z1 (-1099511627776))) = w5 at *
      clear hWW HP HMM HB HG y0 y1 y2 y3 f2 f3 c2 HC3 HB1
      obtain ⟨b', o', e, -, hcell⟩ := (HR.out.grew (Nat.le_refl _) hG5).at_ hjl
      injection e with e
      injection e with e1 e2
      subst e1 e2
      have c3 : w5.cell? ⟨b, o + j * 4 + 3, none⟩ = some (.int .i64 d.2.2.2) := by
        have h := hcell 3 _ rfl
        rw [HD.out] at h
        exact h
      obtain ⟨y0, y1, y2, y3⟩ := hM5.at_ (j := j) (by rw [List.length_set, HMl.out]; exact hjl)
      have f3 := hM5.free (j * 4 + 3)
      have HP := Lib.hid (hM5.put (j := j) (k := 3) (by rw [List.length_set, HMl.out]; exact hjl) (by omega) (min (-(belowI (-d.2.2.2) q)) 1099511627776))
      have HB5 := Lib.hid (hB5.far (p := ⟨g, j * 4 + 3, none⟩) (Ne.symm hne) (.int .i64 (min (-(belowI (-d.2.2.2) q)) 1099511627776)))
      have HG5 := Lib.hid (show Grew w (w5.setCell ⟨g, j * 4 + 3, none⟩ (.int .i64 (min (-(belowI (-d.2.2.2) q)) 1099511627776))) from Keeps.then_ hG5 (MineC.put_keeps g _ _ w5) (fun i hi e => by omega))
      have HB2 := Lib.hid (HBe.out (-d.2.2.2) w5 (by omega) (by omega))
      have hz := belowI_le (n := -d.2.2.2) hq1
      clear hcell hM5 hB5 hG5 y0 y1 y2
      generalize belowI (-d.2.2.2) q = z2 at *
      obtain ⟨hz1, hz2⟩ := hz
      go_wp2_with fail
      refine HB2.out.mono ?_
      rintro e w' ⟨rfl, hw'⟩
      rw [hw']; clear hw' w'
      go_upto_region 12 with fail
      try rw [min_if]
      rw [HT.out] at HP
      generalize hWW : w5.setCell ⟨g, j * 4 + 3, none⟩ (.int .i64 (min (-z2) 1099511627776)) = w6 at *
      clear hWW y3 f3 c3 HB2 HT
      go_wp2_with fail
      go_roundw
      case rel => exact ⟨j + 1, by omega, by go_num, HP.out, HB5.out, HG5.out⟩
      case measure => simp [intOf]; omega
    · obtain rfl : j = n4 := by omega
      have hM' := hM
      rw [HM.out, mixC_all, ← HM.out] at hM'
      have HFn := Lib.hid (HF.out wr hG _ hM'.rd)
      have HG := Lib.hid hG
      clear hM hM' hG
      go_wp2_with (refine ldN 27 Tryz.underlying27 rfl (.tmp 3) w.heap.size (cells12 nm (.slice A n c) x) 27 info12 rfl rfl rfl hB ?_)
      refine HFn.out.mono ?_
      intro e w6 h6
      have h6' := h6.from_ HG.out
      obtain ⟨A6, m6, c6, g6, rfl⟩ := h6'.form
      have HR6 := Lib.hid h6'
      clear h6 h6' HFn hB
      go_wp2_with fail
      exact bodyPost_ret (v := .tuple #[.slice A6 m6 c6, .int .i64 g6, .int .i64 0]) (by simp [results, Tryz.results29, go_sem]) rfl HR6.out
end Go.Proofs.YtgkmfblmkfclbaaGreatDoor
namespace Go.Proofs.YtgkmfblmkfclbaaGreatDoor
open Go.RowKit Pl

set_option maxHeartbeats 6400000 in
set_option maxRecDepth 100000 in
theorem kinds_any (nm : ByteArray) (A : Option Addr) (n c : Nat) (ls : List (ByteArray × ByteArray)) (x : Fin 10 → Int) (v : Value) (cs : List Clm) (k p : Int) (w : World) (hnm : Low nm) (hL : RdL w (.slice A n c) ls) (hls : GoodL ls) (hx : GoodD x) (hr : RdC w w.heap.size v cs) (hv : ∀ c ∈ cs, ValidC x c) (hl : cs.length + spanD x ≤ 4096) (hc : clashB x (spanD x) cs = false) (hk : k = 1 ∨ k = 2 ∨ k = 3 ∨ k = 4) (hp1 : 1 ≤ p) (hp2 : p ≤ 1048576) (hp3 : k ≠ 4 → p ≤ 1000) :
    Calls Tryz.prog 9 #[vdecl nm (.slice A n c) x, v, .int .i64 k, .int .i64 p] w (CompPost x (spanD x) cs w) := by
  have H1 := Lib.hid (fun w' (g : Grew w w') (h : p ≤ 1000) => quantise_any nm A n c ls x v cs p w' hnm (hL.grew g) hls hx ((hr.grew (Nat.le_refl _) g).more g.size) hv hl hc hp1 h)
  have H2 := Lib.hid (fun w' (g : Grew w w') => thin_any nm A n c ls x v cs p w' hnm (hL.grew g) hls hx ((hr.grew (Nat.le_refl _) g).more g.size) hv hl hc (by omega))
  have H3 := Lib.hid (fun w' (g : Grew w w') (h : p ≤ 1000) => rollup_any nm A n c ls x v cs p w' hnm (hL.grew g) hls hx ((hr.grew (Nat.le_refl _) g).more g.size) hv hl hc hp1 (by omega))
  have H4 := Lib.hid (fun w' (g : Grew w w') => retain_any nm A n c ls x v cs p w' hnm (hL.grew g) hls hx ((hr.grew (Nat.le_refl _) g).more g.size) hv hl hc (by omega) hp2)
  have hbd : Box (w.alloc (.cells (cells12 nm (.slice A n c) x).toArray 27)) w.heap.size 27 (cells12 nm (.slice A n c) x).toArray := Box.new _ _ _
  have hG0 := (Grew.refl w).alloc (.cells (cells12 nm (.slice A n c) x).toArray 27)
  obtain ⟨A1, m1, q1, rfl, -, -⟩ := hr.form
  have H30 := Lib.hid hp3
  clear hr hv hc hL hls hx hnm hl hp3
  rw [vdecl_cells]
  rw [vdecl_cells] at H1 H2 H3 H4
  rcases hk with rfl | rfl | rfl | rfl
  · go_enter Tryz.func9, Tryz.ntmps9
    go_upto_region 1 with fail
    generalize w.alloc (.cells (cells12 nm (.slice A n c) x).toArray 27) = w1 at *
    have HQ := Lib.hid (H1.out w1 hG0 (H30.out (by omega)))
    go_wp2_with (refine ldN 27 Tryz.underlying27 rfl (.tmp 4) w.heap.size (cells12 nm (.slice A n c) x) 27 info12 rfl rfl rfl hbd ?_)
    refine HQ.out.mono ?_
    intro e w6 h6
    have h6' := h6.from_ hG0
    obtain ⟨A6, m6, c6, g6, rfl⟩ := h6'.form
    have HR6 := Lib.hid h6'
    clear h6 h6' HQ hbd
    go_wp2_with fail
    exact bodyPost_ret (v := .tuple #[.slice A6 m6 c6, .int .i64 g6, .int .i64 0]) (by simp [results, Tryz.results9, go_sem]) rfl HR6.out
  · go_enter Tryz.func9, Tryz.ntmps9
    go_upto_region 1 with fail
    generalize w.alloc (.cells (cells12 nm (.slice A n c) x).toArray 27) = w1 at *
    have HQ := Lib.hid (H2.out w1 hG0)
    go_wp2_with (refine ldN 27 Tryz.underlying27 rfl (.tmp 4) w.heap.size (cells12 nm (.slice A n c) x) 27 info12 rfl rfl rfl hbd ?_)
    refine HQ.out.mono ?_
    intro e w6 h6
    have h6' := h6.from_ hG0
    obtain ⟨A6, m6, c6, g6, rfl⟩ := h6'.form
    have HR6 := Lib.hid h6'
    clear h6 h6' HQ hbd
    go_wp2_with fail
    exact bodyPost_ret (v := .tuple #[.slice A6 m6 c6, .int .i64 g6, .int .i64 0]) (by simp [results, Tryz.results9, go_sem]) rfl HR6.out
  · go_enter Tryz.func9, Tryz.ntmps9
    go_upto_region 1 with fail
    generalize w.alloc (.cells (cells12 nm (.slice A n c) x).toArray 27) = w1 at *
    have HQ := Lib.hid (H3.out w1 hG0 (H30.out (by omega)))
    go_wp2_with (refine ldN 27 Tryz.underlying27 rfl (.tmp 4) w.heap.size (cells12 nm (.slice A n c) x) 27 info12 rfl rfl rfl hbd ?_)
    refine HQ.out.mono ?_
    intro e w6 h6
    have h6' := h6.from_ hG0
    obtain ⟨A6, m6, c6, g6, rfl⟩ := h6'.form
    have HR6 := Lib.hid h6'
    clear h6 h6' HQ hbd
    go_wp2_with fail
    exact bodyPost_ret (v := .tuple #[.slice A6 m6 c6, .int .i64 g6, .int .i64 0]) (by simp [results, Tryz.results9, go_sem]) rfl HR6.out
  · go_enter Tryz.func9, Tryz.ntmps9
    go_upto_region 1 with fail
    generalize w.alloc (.cells (cells12 nm (.slice A n c) x).toArray 27) = w1 at *
    have HQ := Lib.hid (H4.out w1 hG0)
    go_wp2_with (refine ldN 27 Tryz.underlying27 rfl (.tmp 4) w.heap.size (cells12 nm (.slice A n c) x) 27 info12 rfl rfl rfl hbd ?_)
    refine HQ.out.mono ?_
    intro e w6 h6
    have h6' := h6.from_ hG0
    obtain ⟨A6, m6, c6, g6, rfl⟩ := h6'.form
    have HR6 := Lib.hid h6'
    clear h6 h6' HQ hbd
    go_wp2_with fail
    exact bodyPost_ret (v := .tuple #[.slice A6 m6 c6, .int .i64 g6, .int .i64 0]) (by simp [results, Tryz.results9, go_sem]) rfl HR6.out
end Go.Proofs.YtgkmfblmkfclbaaGreatDoor
