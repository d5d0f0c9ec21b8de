/- lossy.Retain. -/
import Derived.Test.YtgkmfblmkfclbaaGreatDoorBlockSoundP40
import Derived.Test.YtgkmfblmkfclbaaGreatDoorBlockSoundP27
import Derived.Test.YtgkmfblmkfclbaaGreatDoorBlockSoundP32
import Derived.Test.YtgkmfblmkfclbaaGreatDoorBlockSoundP12
namespace Go.Proofs.YtgkmfblmkfclbaaGreatDoor
open Go.RowKit Pl

theorem env_40 {x : Fin 10 → Int} (hx : GoodD x) {cs : List Clm} (hv : ∀ c ∈ cs, ValidC x c) (hc : clashB x (spanD x) cs = false) : ∀ j, j < spanD x → -1099511627776 ≤ (boundE x (spanD x) cs).1.getD j 0 ∧ (boundE x (spanD x) cs).1.getD j 0 ≤ (boundE x (spanD x) cs).2.getD j 0 ∧ (boundE x (spanD x) cs).2.getD j 0 ≤ 1099511627776 := fun j hj => by
  have a := boundE_small hx hv hc j hj
  have h1 := hx.lo
  have h3 := hx.hi2
  omega
set_option maxHeartbeats 12800000 in
set_option maxRecDepth 100000 in
theorem retain_any (nm : ByteArray) (A : Option Addr) (n c : Nat) (ls : List (ByteArray × ByteArray)) (x : Fin 10 → Int) (v : Value) (cs : List Clm) (bf : Int) (w : World) (hnm : Low nm) (hL : RdL w (.slice A n c) ls) (hls : GoodL ls) (hx : GoodD x) (hr : RdC w w.heap.size v cs) (hv : ∀ c ∈ cs, ValidC x c) (hl : cs.length + spanD x ≤ 4096) (hc : clashB x (spanD x) cs = false) (hb1 : 0 ≤ bf) (hb2 : bf ≤ 1048576) :
    Calls Tryz.prog 32 #[vdecl nm (.slice A n c) x, v, .int .i64 bf] w (CompPost x (spanD x) cs w) := by
  have HN := Lib.hid (fun w' (g : Grew w w') => new_ok nm A n c ls x v cs w' hnm (hL.grew g) hls hx ((hr.grew (Nat.le_refl _) g).more g.size) hv (by omega) hc)
  have HF := Lib.hid (fun w' (g : Grew w w') (u : Value) (ds : List Clm) (hu : RdC w' w'.heap.size u ds) (h : ∀ d ∈ ds, Implied (x 7) (spanD x) (boundE x (spanD x) cs) d ∧ ValidC x d) (hdl : ds.length ≤ cs.length + spanD x) => finish_any nm A n c ls x v u cs ds w' hnm (hL.grew g) hls hx ((hr.grew (Nat.le_refl _) g).more g.size) hv hl hc hu h hdl)
  have HOI := Lib.hid (old_implied hx hv hc)
  have HPt := Lib.hid (fun (j : Nat) (ht : bf = x 7 + (j : Int)) (hj : j < spanD x) => pointC_ok hx ht hj (env_40 hx hv hc))
  have HR := Lib.hid hr
  have hs := spanD_le hx
  have f1 := hx.first
  have f2 : x 7 ≤ 1048576 := by have := hx.last; have := hx.last2; omega
  have HV := Lib.hid hv
  have hbd : Box (w.alloc (.cells (cells12 nm (.slice A n c) x).toArray 27)) w.heap.size 27 (cells12 nm (.slice A n c) x).toArray := Box.new _ _ _
  have hG0 := (Grew.refl w).alloc (.cells (cells12 nm (.slice A n c) x).toArray 27)
  obtain ⟨A1, m1, q1, rfl, hm1, -⟩ := hr.form
  have hml : m1 ≤ 4096 := by omega
  have HM := Lib.hid hm1
  generalize hNN : spanD x = N at *
  obtain ⟨hs1, hs2⟩ := hs
  generalize hEE : boundE x N cs = E at *
  have HEE := Lib.hid hEE
  clear hr hv hc hL hls hx hnm hNN hl hm1 hEE
  rw [vdecl_cells]
  rw [vdecl_cells] at HN HF
  have tq : decide (bf < 0) = false := by simp; omega
  have tq2 : decide (1048576 < bf) = false := by simp; omega
  go_enter Tryz.func32, Tryz.ntmps32
  go_upto_region 1 with fail
  generalize w.alloc (.cells (cells12 nm (.slice A n c) x).toArray 27) = w1 at *
  go_wp2_with (refine ldN 27 Tryz.underlying27 rfl (.tmp 3) w.heap.size (cells12 nm (.slice A n c) x) 27 info12 rfl rfl rfl hbd ?_)
  refine (HN.out w1 hG0).mono ?_
  rintro e w2 ⟨B, p, C, q, rfl, r1, r2, k2⟩
  have hb2' := hbd.grew k2
  have hG2 := hG0.trans k2
  clear hbd hG0 HN k2
  unfold venv cells3
  go_upto_region 6 with fail
  have ga := (Grew.refl w2).alloc (.cells #[.int .i64 (x 7), .slice B N p, .slice C N q] 32)
  have e3 : Box (w2.alloc (.cells #[.int .i64 (x 7), .slice B N p, .slice C N q] 32)) w2.heap.size 32 (cells3 (x 7) (.slice B N p) (.slice C N q)).toArray := Box.new _ _ _
  have hb3 := hb2'.grew ga
  have hG3 := hG2.trans ga
  have r3 := (r1.grew ga).rd
  have r4 := (r2.grew ga).rd
  generalize w2.alloc (.cells #[.int .i64 (x 7), .slice B N p, .slice C N q] 32) = w3 at *
  generalize hgg : w2.heap.size = g9 at *
  have HB3 := Lib.hid hb3
  have HE3 := Lib.hid e3
  have HG3 := Lib.hid hG3
  have HR3 := Lib.hid r3
  have HR4 := Lib.hid r4
  clear ga hb2' hG2 r1 r2 hgg hb3 e3 hG3 r3 r4
  go_wp2_with fail
  go_loopw [11, 34] (fun o i wr => ∃ (j m : Nat) (C : Option Addr) (q2 : Nat) (ks : List Clm), j ≤ m1 ∧ i = .int .i64 j ∧ o = .slice C m q2 ∧ m = ks.length ∧ m ≤ j ∧ (∀ d ∈ ks, d ∈ cs) ∧ MineC wr w3.heap.size (.slice C m q2) ks ∧ Grew w3 wr) (fun _ i _ => m1 - (intOf i).toNat)
  case atStart => exact ⟨0, 0, none, 0, [], by omega, rfl, rfl, rfl, by omega, by simp, MineC.nil _ _, Grew.refl _⟩
  case round =>
    obtain ⟨j, m, C2, q2, ks, hj, rfl, rfl, hm, hmj, hks, hM, hG⟩ := hrel
    have HMk := Lib.hid hm
    have HKs := Lib.hid hks
    clear hm hks
    by_cases hlt : j < m1
    · have hjl : j < cs.length := by rw [← HM.out]; exact hlt
      obtain ⟨b, o, rfl, hbb, hcell⟩ := (HR.out.grew (Nat.le_refl _) (HG3.out.trans hG)).at_ hjl
      have hdm : cs.getD j zc ∈ cs := by rw [List.getD_eq_getElem?_getD, List.getElem?_eq_getElem hjl]; exact List.getElem_mem hjl
      have HDM := Lib.hid hdm
      have HRg := Lib.hid (show wr.rangeAt b (o + j * 4) (cells4 (cs.getD j zc)) from fun k u hu => by rw [Nat.add_assoc]; exact hcell k u hu)
      generalize cs.getD j zc = d at *
      have HMM := Lib.hid hM
      have HG := Lib.hid hG
      clear hcell hjl hdm hM hG
      go_upto_region 10 with (first | (refine wpList_load_mid rfl 82 (.tmp 36) rfl b (o + j * 4) rfl (cells4 d) _ HRg.out Tryz.underlying82 rfl info4 ?_) | (refine stN 82 (.tmp 13) (.tmp 37) wr.heap.size (cells4 d) (cells4 zc) 82 info4 rfl (by intro v hv; simp [cells4] at hv; rcases hv with rfl | rfl | rfl | rfl <;> rfl) rfl rfl rfl rfl (Box.new wr 82 (cells4 zc).toArray) ?_; intro w6 bx6 k6 d6))
      have k56 : Grew wr w6 := Keeps.then_ ((Grew.refl wr).alloc _) k6 (fun i hi e => by omega)
      have hM6 := HMM.out.grew k56
      have HG6 := Lib.hid (HG.out.trans k56)
      generalize wr.heap.size = gc at *
      have c1 : w6.cell? ⟨gc, 1, none⟩ = some (.int .i64 d.2.1) := bx6.cell 1
      clear k6 d6 k56 HRg HMM HG
      by_cases hto : bf ≤ d.2.1
      · have tt : decide (bf ≤ d.2.1) = true := by simpa using hto
        have hn5 : ks.length < 1099511627776 := by rw [← HMk.out]; omega
        have HM6 := Lib.hid hM6
        clear hto hM6
        go_wp2_with (first | (refine ldN 82 Tryz.underlying82 rfl (.tmp 13) gc [.int .i64 d.1, .int .i64 d.2.1, .int .i64 d.2.2.1, .int .i64 d.2.2.2] 82 info4 rfl rfl rfl bx6 ?_) | (at_builtin; refine app_oneC rfl (.tmp 42) (.tmp 44) rfl rfl (HM6.out.alloc _) w6.heap.size 1 d 82 rfl (Nat.le_refl _) (Box.new w6 82 _) hn5 (by have := HG6.out.size; simp; omega) ?_; intro r7 cap7 w7 hM7 hk7 hr7 hbr7 hlr7; have HG7 := Lib.hid (Grew.appC (HG6.out.alloc _) (HM6.out.alloc _) hk7); rw [← HMk.out] at hM7 ⊢; have HM7 := Lib.hid hM7; clear hM7 hk7 hr7 hbr7 hlr7))
        go_roundw
        case rel => exact ⟨j + 1, m + 1, _, cap7, ks ++ [d], by omega, by go_num, rfl, by rw [List.length_append, HMk.out]; rfl, by omega, (fun y hy => by
          rcases List.mem_append.1 hy with h | h
          · exact HKs.out y h
          · obtain rfl := List.mem_singleton.1 h; exact HDM.out), HM7.out, HG7.out⟩
        case measure => simp [intOf]; omega
      · have tt : decide (bf ≤ d.2.1) = false := by simpa using hto
        have HM6 := Lib.hid hM6
        clear hto hM6
        go_wp2_with fail
        go_roundw
        case rel => exact ⟨j + 1, m, _, q2, ks, by omega, by go_num, rfl, HMk.out, by omega, HKs.out, HM6.out, HG6.out⟩
        case measure => simp [intOf]; omega
    · obtain rfl : j = m1 := by omega
      have HAt := Lib.hid (eat_any (x 7) bf E.1 E.2 B C N p q wr ((HR3.out.grew (Nat.le_refl _) hG).more hG.size) ((HR4.out.grew (Nat.le_refl _) hG).more hG.size) (by omega) (by omega) (by omega))
      have hE9 := HE3.out.grew hG
      have hB9 := HB3.out.grew hG
      have HMM := Lib.hid hM
      have HG := Lib.hid hG
      unfold venv at HAt
      clear hM hG hlt
      go_wp2_with (refine ldN 32 Tryz.underlying32 rfl (.tmp 9) g9 (cells3 (x 7) (.slice B N p) (.slice C N q)) 32 (by kernel_rfl) rfl rfl rfl hE9 ?_)
      refine HAt.out.mono ?_
      rintro e w4 (⟨-, rfl, k4⟩ | ⟨hi1, hi2, rfl, k4⟩)
      · have hB4 := hB9.grew k4
        have hG4 := HG.out.trans k4
        have hM4 := HMM.out.grew k4
        have HFn := Lib.hid (HF.out w4 (HG3.out.trans hG4) _ ks hM4.rd (fun y hy => HOI.out y (HKs.out y hy)) (by have := HMk.out; have := HM.out; omega))
        have HG4 := Lib.hid (HG3.out.trans hG4)
        clear k4 hB9 hE9 hG4 hM4
        go_wp2_with (refine ldN 27 Tryz.underlying27 rfl (.tmp 3) w.heap.size (cells12 nm (.slice A n c) x) 27 info12 rfl rfl rfl hB4 ?_)
        refine HFn.out.mono ?_
        intro e w6 h6
        have h6' := h6.from_ HG4.out
        obtain ⟨A6, m6, c6, g6, rfl⟩ := h6'.form
        have HR6 := Lib.hid h6'
        clear h6 h6' HFn hB4
        go_wp2_with fail
        exact bodyPost_ret (v := .tuple #[.slice A6 m6 c6, .int .i64 g6, .int .i64 0]) (by simp [results, Tryz.results32, go_sem]) rfl HR6.out
      · obtain ⟨i, hi⟩ : ∃ i : Nat, bf - x 7 = (i : Int) := ⟨(bf - x 7).toNat, by omega⟩
        have hiN : i < N := by omega
        have hPt := HPt.out i (by omega) hiN
        rw [hi, Int.toNat_natCast]
        have HPt2 := Lib.hid hPt
        have hB4 := hB9.grew k4
        have hM4 := HMM.out.grew k4
        have HM4 := Lib.hid hM4
        have HG4 := Lib.hid (HG.out.trans k4)
        have hn5 : ks.length < 1099511627776 := by rw [← HMk.out]; omega
        have HB4 := Lib.hid hB4
        clear hi hi1 hi2 hPt hB9 hE9 hB4 hM4 k4 HAt
        unfold pointC at HPt2
        generalize E.1.getD i 0 = lo at *
        generalize E.2.getD i 0 = hi' at *
        go_upto_region 16 with (at_builtin; refine app_oneC rfl (.tmp 56) (.tmp 62) rfl rfl (HM4.out.alloc _) w4.heap.size 1 ((bf, bf, lo, hi') : Clm) 82 rfl (Nat.le_refl _) (Box.new w4 82 _) hn5 (by have := HG4.out.size; simp; omega) ?_; intro r7 cap7 w7 hM7 hk7 hr7 hbr7 hlr7; have HG7 := Lib.hid (Grew.appC (HG4.out.alloc _) (HM4.out.alloc _) hk7); have HB7 := Lib.hid ((HB4.out.alloc (.cells (cells4 (bf, bf, lo, hi')).toArray 82)).keep hk7 (fun e => (HM4.out.alloc _).ne_box e (HB4.out.alloc (.cells (cells4 (bf, bf, lo, hi')).toArray 82)) (by decide) rfl)); rw [← HMk.out] at hM7 ⊢; have HM7 := Lib.hid hM7; clear hM7 hk7 hr7 hbr7 hlr7)
        have HFn := Lib.hid (HF.out w7 (HG3.out.trans HG7.out) _ (ks ++ [(bf, bf, lo, hi')]) HM7.out.rd (fun y hy => by
          rcases List.mem_append.1 hy with h | h
          · exact HOI.out y (HKs.out y h)
          · obtain rfl := List.mem_singleton.1 h; exact HPt2.out) (by rw [List.length_append]; have := HMk.out; have := HM.out; simp; omega))
        have hB7 := HB7.out
        have HG8 := Lib.hid (HG3.out.trans HG7.out)
        go_wp2_with (refine ldN 27 Tryz.underlying27 rfl (.tmp 3) w.heap.size (cells12 nm (.slice A n c) x) 27 info12 rfl rfl rfl hB7 ?_)
        refine HFn.out.mono ?_
        intro e w6 h6
        have h6' := h6.from_ HG8.out
        obtain ⟨A6, m6, c6, g6, rfl⟩ := h6'.form
        have HR6 := Lib.hid h6'
        clear h6 h6' HFn hB7
        go_wp2_with fail
        exact bodyPost_ret (v := .tuple #[.slice A6 m6 c6, .int .i64 g6, .int .i64 0]) (by simp [results, Tryz.results32, go_sem]) rfl HR6.out
end Go.Proofs.YtgkmfblmkfclbaaGreatDoor
