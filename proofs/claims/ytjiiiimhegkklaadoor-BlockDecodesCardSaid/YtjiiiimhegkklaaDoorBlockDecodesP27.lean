/- The reference: Encode. -/
import Derived.Test.YtjiiiimhegkklaaDoorBlockDecodesP24
import Derived.Test.YtjiiiimhegkklaaDoorBlockDecodesP08
import Derived.Deep.RegionHeld3
namespace Go.Proofs.YtjiiiimhegkklaaDoor
open Go.RowKit Pl

/- rows of numbers that lie apart -/
def Apart (v u : Value) : Prop := ∀ k, v.ownBlock = some k → u.ownBlock ≠ some k
structure Four (w : World) (base : Nat) (v0 v1 v2 v3 : Value) (x0 x1 x2 x3 : List Value) : Prop where
  m0 : Mine w base 3 v0 x0
  m1 : Mine w base 3 v1 x1
  m2 : Mine w base 3 v2 x2
  m3 : Mine w base 3 v3 x3
  a01 : Apart v0 v1
  a02 : Apart v0 v2
  a03 : Apart v0 v3
  a12 : Apart v1 v2
  a13 : Apart v1 v3
  a23 : Apart v2 v3
section
variable {w w' : World} {base : Nat} {v0 v1 v2 v3 : Value} {x0 x1 x2 x3 : List Value}
theorem Apart.symm {v u : Value} (h : Apart v u) : Apart u v := fun k hk e => h k e hk
theorem Four.rot (h : Four w base v0 v1 v2 v3 x0 x1 x2 x3) : Four w base v1 v2 v3 v0 x1 x2 x3 x0 :=
  ⟨h.m1, h.m2, h.m3, h.m0, h.a12, h.a13, h.a01.symm, h.a23, h.a02.symm, h.a03.symm⟩
theorem Four.grew (h : Four w base v0 v1 v2 v3 x0 x1 x2 x3) (hk : Grew w w') : Four w' base v0 v1 v2 v3 x0 x1 x2 x3 :=
  ⟨h.m0.grew hk, h.m1.grew hk, h.m2.grew hk, h.m3.grew hk, h.a01, h.a02, h.a03, h.a12, h.a13, h.a23⟩
theorem Four.alloc (h : Four w base v0 v1 v2 v3 x0 x1 x2 x3) (o : Obj) : Four (w.alloc o) base v0 v1 v2 v3 x0 x1 x2 x3 := h.grew ((Grew.refl w).alloc o)
theorem Four.drew (h : Four w base v0 v1 v2 v3 x0 x1 x2 x3) : Four w.drew base v0 v1 v2 v3 x0 x1 x2 x3 := h.grew (Keeps.drew (Grew.refl w))
theorem Apart.nil (u : Value) : Apart (.slice none 0 0) u := fun k h => by cases h
theorem Four.nil (w : World) (base : Nat) : Four w base (.slice none 0 0) (.slice none 0 0) (.slice none 0 0) (.slice none 0 0) [] [] [] [] :=
  ⟨Mine.nil _ _ _, Mine.nil _ _ _, Mine.nil _ _ _, Mine.nil _ _ _, Apart.nil _, Apart.nil _, Apart.nil _, Apart.nil _, Apart.nil _, Apart.nil _⟩
theorem Apart.next {v v' u : Value} {e : TypeId} {xs : List Value} (h : Apart v u) (hu : Mine w base e u xs) (hv : v'.ownBlock = v.ownBlock ∨ v'.ownBlock = some w.heap.size) : Apart v' u := fun k hk e => by
  rcases hv with hv | hv
  · exact h k (by rw [← hv]; exact hk) e
  · rw [hv] at hk
    injection hk with hk
    subst hk
    have := (hu.lt _ e).2
    omega
theorem Four.app (h : Four w base v0 v1 v2 v3 x0 x1 x2 x3) {v' : Value} {x' : List Value} (hm : Mine w' base 3 v' x') (hk : Keeps (fun i => v0.ownBlock = some i) w w') (hv : v'.ownBlock = v0.ownBlock ∨ v'.ownBlock = some w.heap.size) :
    Four w' base v' v1 v2 v3 x' x1 x2 x3 :=
  ⟨hm, h.m1.keep hk (fun k a b => h.a01 k b a), h.m2.keep hk (fun k a b => h.a02 k b a), h.m3.keep hk (fun k a b => h.a03 k b a),
    h.a01.next h.m1 hv, h.a02.next h.m2 hv, h.a03.next h.m3 hv, h.a12, h.a13, h.a23⟩
theorem Four.form (h : Four w base v0 v1 v2 v3 x0 x1 x2 x3) : ∃ A n c, v0 = .slice A n c := by
  obtain ⟨A, n, c, rfl, _⟩ := h.m0.slice
  exact ⟨A, n, c, rfl⟩
end
theorem own_of {r n c : Nat} {v : Value} {H : Nat} (h : some r = v.ownBlock ∨ r = H) : (Value.slice (some ⟨r, 0, none⟩) n c).ownBlock = v.ownBlock ∨ (Value.slice (some ⟨r, 0, none⟩) n c).ownBlock = some H := by
  rcases h with h | h
  · exact .inl h
  · exact .inr (by rw [h]; rfl)

/- one element appended in a region that draws its order -/
theorem step_one {P : Program} {t e : TypeId} {bytes : Nat} {z : Value} {w : World} {base : Nat} {v : Value} {xs : List Value} {ops : Array Oper} {o : Oper} {a : Act} {K : Act → World → Prop} {Q : Exit → Act → World → Prop} {E : Prop} (T : SlT P t e bytes z) (hgd : o.guard = none) (s x : Operand)
    (ho : o.op = .call { callee := .builtin .append, args := #[s, x], argTypes := #[t, t] })
    (hs : a.eval s = v) (hown : Mine w base e v xs) (g c : Nat) (u : Value) (hx : a.eval x = .slice (some ⟨g, 0, none⟩) 1 c) (hc1 : 1 ≤ c) (hg : g < w.heap.size) (hu : w.cell? ⟨g, 0, none⟩ = some u) (h1 : u.oneCell' = true)
    (hn : xs.length < 1099511627776) (hbase : base ≤ w.heap.size)
    (h : ∀ r cap w', Mine w' base e (.slice (some ⟨r, 0, none⟩) (xs.length + 1) cap) (xs ++ [u]) → Keeps (fun i => v.ownBlock = some i) w w' →
      (some r = v.ownBlock ∨ r = w.heap.size) → K (a.put o.dst (.slice (some ⟨r, 0, none⟩) (xs.length + 1) cap)) w') :
    if Region.wanted o (yielded ops a.tmps) = true then Oper.wp P o a w K Q else E := by
  have hr : Rd w w.heap.size (.slice (some ⟨g, 0, none⟩) 1 c) [u] := by
    refine ⟨_, c, rfl, hc1, fun _ => ⟨_, rfl, hg, fun j u' hu' => ?_⟩⟩
    match j, hu' with
    | 0, hu' => simp at hu'; subst hu'; simpa [Addr.add] using hu
  refine step_app T hgd s x ho hs hown hx hr (by intro u' hu'; simp at hu'; subst hu'; exact h1) (by simp; omega) hbase ?_
  intro A m cap w' hm h2 h3 h4
  rcases h2.form with ⟨_, hh⟩ | ⟨g', cap', cur, hv, hb, hbox, _⟩
  · simp at hh
  · injection hv with hv1 hv2 hv3
    subst hv1 hv2 hv3
    simp only [List.length_append, List.length_singleton] at h2 h4 ⊢
    refine h g' cap w' h2 h3 ?_
    rcases h4 with h4 | h4
    · exact .inl h4
    · right; simpa [Value.ownBlock] using h4

def fmap (f : Clm → Int) (cs : List Clm) (j : Nat) : List Value := ((cs.take j).map f).map vi
theorem fmap_succ (f : Clm → Int) (cs : List Clm) (j : Nat) (hj : j < cs.length) : fmap f cs (j + 1) = fmap f cs j ++ [.int .i64 (f (cs.getD j zc))] := by
  unfold fmap
  rw [List.take_add_one, List.getElem?_eq_getElem hj]
  have : cs.getD j zc = cs[j] := by rw [List.getD_eq_getElem?_getD, List.getElem?_eq_getElem hj]; rfl
  rw [this, List.map_append, List.map_append]
  rfl
theorem fmap_length (f : Clm → Int) (cs : List Clm) (j : Nat) (hj : j ≤ cs.length) : (fmap f cs j).length = j := by
  unfold fmap; simp; omega
theorem fmap_all (f : Clm → Int) (cs : List Clm) : fmap f cs cs.length = (cs.map f).map vi := by unfold fmap; rw [List.take_length]
def fF (c : Clm) : Int := c.1
def fL (c : Clm) : Int := wrap64 (c.2.1 - c.1)
def fO (c : Clm) : Int := c.2.2.1
def fW (c : Clm) : Int := wrap64 (c.2.2.2 - c.2.2.1)

theorem Mine.int_cell {w : World} {base : Nat} {ad : Addr} {n c j : Nat} {l : List Int} (h : Mine w base 3 (.slice (some ad) n c) (l.map vi)) (hj : j < l.length) {y : Int} (hy : l.getD j 0 = y) : w.cell? (ad.add j) = some (.int .i64 y) := by
  obtain ⟨ad', e, _, hc⟩ := h.rd.int_at hj
  injection e with e
  subst e
  rw [hc, hy]
theorem frs_i64 {cs : List Clm} (h : ∀ c ∈ cs, okC c) : ∀ x ∈ cs.map fF, I64 x := fun x hx => by
  obtain ⟨c, hc, rfl⟩ := List.mem_map.1 hx
  exact (ok_i64 (h c hc)).1
theorem los_i64 {cs : List Clm} (h : ∀ c ∈ cs, okC c) : ∀ x ∈ cs.map fO, I64 x := fun x hx => by
  obtain ⟨c, hc, rfl⟩ := List.mem_map.1 hx
  exact (ok_i64 (h c hc)).2.2.1
theorem map_i64 {cs : List Clm} (f : Clm → Int) (h : ∀ c, I64 (f c)) : ∀ x ∈ cs.map f, I64 x := fun x hx => by
  obtain ⟨c, hc, rfl⟩ := List.mem_map.1 hx
  exact h c

set_option maxHeartbeats 12800000 in
set_option maxRecDepth 100000 in
theorem rencode_any (v : Value) (cs : List Clm) (w : World) (h : RdC w w.heap.size v cs) (hl : cs.length ≤ 1000000000) :
    Calls Tryd.prog 40 #[v] w (EncPost cs w) := by
  obtain ⟨A, n, c, rfl, hn, hc⟩ := h.form
  have hnl : n ≤ 1000000000 := by omega
  have HN := Lib.hid hn
  have H := Lib.hid h
  clear h
  by_cases hlong : 4096 < n
  · have hE := encE_long (cs := cs) (by omega)
    have HE := Lib.hid hE
    clear hE hn
    have t0 : (4096 : Int) < (n : Int) := by omega
    go_enter Tryd.func40, Tryd.ntmps40
    go_wp2_with fail
    go_ret2
    exact ⟨Grew.refl w, .inr ⟨by rw [HE.out]; decide, by rw [HE.out]; rfl⟩⟩
  have hshort : cs.length ≤ 4096 := by omega
  have hn4 : n ≤ 4096 := by omega
  have t0 : (n : Int) ≤ 4096 := by omega
  have HS := Lib.hid hshort
  clear hn hlong hshort
  go_enter Tryd.func40, Tryd.ntmps40
  go_wp2_with fail
  go_loopw [4, 5, 6, 7, 8] (fun a0 a1 a2 a3 i wr => ∃ (j c0 c1 c2 c3 : Nat) (A0 A1 A2 A3 : Option Addr), j ≤ n ∧ i = .int .i64 j ∧ a0 = .slice A0 j c0 ∧ a1 = .slice A1 j c1 ∧ a2 = .slice A2 j c2 ∧ a3 = .slice A3 j c3 ∧
      Four wr w.heap.size (.slice A0 j c0) (.slice A1 j c1) (.slice A2 j c2) (.slice A3 j c3) (fmap fF cs j) (fmap fL cs j) (fmap fO cs j) (fmap fW cs j) ∧ Grew w wr ∧ ∀ c ∈ cs.take j, okC c) (fun _ _ _ _ i _ => n - (intOf i).toNat)
  case atStart => exact ⟨0, 0, 0, 0, 0, none, none, none, none, by omega, rfl, rfl, rfl, rfl, rfl, by simpa [fmap] using Four.nil w w.heap.size, Grew.refl w, by simp⟩
  case round =>
    obtain ⟨j, c0, c1, c2, c3, A0, A1, A2, A3, hj, rfl, rfl, rfl, rfl, rfl, hF, hGr, hall⟩ := hrel
    have HALL := Lib.hid hall
    clear hall
    by_cases hlt : j < n
    · have hjl : j < cs.length := by rw [← HN.out]; exact hlt
      obtain ⟨b, o, rfl, hb, e0, e1, e2, e3⟩ := (H.out.grew (Nat.le_refl _) hGr).four hjl
      have hcl : ∀ w' : World, Grew w w' → w'.cell? ⟨b, o + j * 4, none⟩ = some (.int .i64 (cs.getD j zc).1) ∧ w'.cell? ⟨b, o + j * 4 + 1, none⟩ = some (.int .i64 (cs.getD j zc).2.1) ∧ w'.cell? ⟨b, o + j * 4 + 2, none⟩ = some (.int .i64 (cs.getD j zc).2.2.1) ∧ w'.cell? ⟨b, o + j * 4 + 3, none⟩ = some (.int .i64 (cs.getD j zc).2.2.2) := by
        intro w' hg
        obtain ⟨b', o', e, _, r⟩ := (H.out.grew (Nat.le_refl _) hg).four hjl
        injection e with e
        injection e with e1 e2
        subst e1 e2
        exact r
      have HCL := Lib.hid hcl
      have HJ := Lib.hid hjl
      have HEc := fun w' : World => rencodable_any (cs.getD j zc) w'
      unfold vc cells4 at HEc
      have HEC := Lib.hid HEc
      have S0 := Lib.hid (fmap_succ fF cs j hjl)
      have S1 := Lib.hid (fmap_succ fL cs j hjl)
      have S2 := Lib.hid (fmap_succ fO cs j hjl)
      have S3 := Lib.hid (fmap_succ fW cs j hjl)
      have l0 : (fmap fF cs j).length < 1099511627776 := by rw [fmap_length _ _ _ (by omega)]; omega
      have l1 : (fmap fL cs j).length < 1099511627776 := by rw [fmap_length _ _ _ (by omega)]; omega
      have l2 : (fmap fO cs j).length < 1099511627776 := by rw [fmap_length _ _ _ (by omega)]; omega
      have l3 : (fmap fW cs j).length < 1099511627776 := by rw [fmap_length _ _ _ (by omega)]; omega
      have L0 := Lib.hid (fmap_length fF cs j (by omega))
      have L1 := Lib.hid (fmap_length fL cs j (by omega))
      have L2 := Lib.hid (fmap_length fO cs j (by omega))
      have L3 := Lib.hid (fmap_length fW cs j (by omega))
      clear hjl HEc hcl
      have hsz := hGr.size
      by_cases hok : okC (cs.getD j zc)
      · have hD : decide (okC (cs.getD j zc)) = true := decide_eq_true hok
        have HOK := Lib.hid (take_okC HALL.out HJ.out hok)
        have HD := Lib.hid hD
        clear hok hD
        have HF := Lib.hid hF
        clear hF
        generalize cs.getD j zc = x at *
        go_wp2_with fail
        refine (HEC.out _).mono ?_
        rintro e w2 ⟨rfl, k⟩
        rw [HD.out]
        have hG2 := hGr.trans k
        have F2 := HF.out.grew k
        have hs2 := hG2.size
        obtain ⟨e0, e1, e2, e3⟩ := HCL.out _ hG2
        clear k HEC HD HF
        have hsd0 := hG2.size
        go_wp2_with (at_builtin; refine app_one slInt rfl (.tmp 28) (.tmp 34) rfl rfl (F2.m0.alloc _) w2.heap.size 1 (.int .i64 (x.1)) rfl (Nat.le_refl _) (by simp) (by simp) rfl l0 (by simp; omega) ?_; intro r0 cap0 wk0 hM0 hk0 hr0 hbr0 hlr0; rw [L0.out] at hM0 ⊢; have Fwk0 := ((F2.alloc _).app hM0 hk0 (own_of hr0)).rot; have Gwk0 : Grew w wk0 := (hG2.alloc _).app (F2.m0.alloc _) hk0; clear hM0 hk0 hr0 hbr0 hlr0; obtain ⟨e0, e1, e2, e3⟩ := HCL.out _ Gwk0)
        have hsd1 := Gwk0.size
        have hbW1 : b < wk0.heap.size := Nat.lt_of_lt_of_le hb hsd1
        go_wp2_with fail
        go_region_held3 (fun w' => w'.cell? ⟨b, o + j * 4 + 1, none⟩ = some (.int .i64 x.2.1) ∧ w'.cell? ⟨b, o + j * 4, none⟩ = some (.int .i64 x.1))
          (first | assumption | go_keep | exact ⟨e1, e0⟩ | exact cW1)
          (first | (refine step_one slInt rfl (.tmp 36) (.tmp 48) rfl rfl (Mine.drew (Fwk0.m0.alloc _)) wk0.heap.size 1 (.int .i64 (IntKind.i64.wrap (x.2.1 - x.1))) rfl (Nat.le_refl _) (by simp) (by simp) rfl l1 (by simp; omega) ?_; intro r1 cap1 wk1 hM1 hk1 hr1; rw [L1.out] at hM1 ⊢; rw [IntWalk.i64_left] at hM1; have Fwk1 := ((Four.drew (Fwk0.alloc _)).app hM1 hk1 (own_of hr1)).rot; have Gwk1 : Grew w wk1 := Grew.app (Keeps.drew (Gwk0.alloc _)) (Mine.drew (Fwk0.m0.alloc _)) hk1; clear hM1 hk1 hr1; have cW1 := And.intro (HCL.out _ Gwk1).2.1 (HCL.out _ Gwk1).1))
        obtain ⟨e0, e1, e2, e3⟩ := HCL.out _ Gwk1
        have hsd2 := Gwk1.size
        go_wp2_with (at_builtin; refine app_one slInt rfl (.tmp 50) (.tmp 56) rfl rfl (Fwk1.m0.alloc _) wk1.heap.size 1 (.int .i64 (x.2.2.1)) rfl (Nat.le_refl _) (by simp) (by simp) rfl l2 (by simp; omega) ?_; intro r2 cap2 wk2 hM2 hk2 hr2 hbr2 hlr2; rw [L2.out] at hM2 ⊢; have Fwk2 := ((Fwk1.alloc _).app hM2 hk2 (own_of hr2)).rot; have Gwk2 : Grew w wk2 := (Gwk1.alloc _).app (Fwk1.m0.alloc _) hk2; clear hM2 hk2 hr2 hbr2 hlr2; obtain ⟨e0, e1, e2, e3⟩ := HCL.out _ Gwk2)
        have hsd3 := Gwk2.size
        have hbW3 : b < wk2.heap.size := Nat.lt_of_lt_of_le hb hsd3
        go_wp2_with fail
        go_region_held3 (fun w' => w'.cell? ⟨b, o + j * 4 + 3, none⟩ = some (.int .i64 x.2.2.2) ∧ w'.cell? ⟨b, o + j * 4 + 2, none⟩ = some (.int .i64 x.2.2.1))
          (first | assumption | go_keep | exact ⟨e3, e2⟩ | exact cW3)
          (first | (refine step_one slInt rfl (.tmp 58) (.tmp 70) rfl rfl (Mine.drew (Fwk2.m0.alloc _)) wk2.heap.size 1 (.int .i64 (IntKind.i64.wrap (x.2.2.2 - x.2.2.1))) rfl (Nat.le_refl _) (by simp) (by simp) rfl l3 (by simp; omega) ?_; intro r3 cap3 wk3 hM3 hk3 hr3; rw [L3.out] at hM3 ⊢; rw [IntWalk.i64_left] at hM3; have Fwk3 := ((Four.drew (Fwk2.alloc _)).app hM3 hk3 (own_of hr3)).rot; have Gwk3 : Grew w wk3 := Grew.app (Keeps.drew (Gwk2.alloc _)) (Mine.drew (Fwk2.m0.alloc _)) hk3; clear hM3 hk3 hr3; have cW3 := And.intro (HCL.out _ Gwk3).2.2.2 (HCL.out _ Gwk3).2.2.1))
        have HFF : Four wk3 w.heap.size (.slice (some ⟨r0, 0, none⟩) (j + 1) cap0) (.slice (some ⟨r1, 0, none⟩) (j + 1) cap1) (.slice (some ⟨r2, 0, none⟩) (j + 1) cap2) (.slice (some ⟨r3, 0, none⟩) (j + 1) cap3) (fmap fF cs (j + 1)) (fmap fL cs (j + 1)) (fmap fO cs (j + 1)) (fmap fW cs (j + 1)) := by
          rw [S0.out, S1.out, S2.out, S3.out]; exact Fwk3
        clear Fwk3
        go_wp2_with fail
        go_roundw
        case rel => exact ⟨j + 1, cap0, cap1, cap2, cap3, _, _, _, _, by omega, by go_num, rfl, rfl, rfl, rfl, HFF, Gwk3, HOK.out⟩
        case measure => simp [intOf]; omega
      · have hD : decide (okC (cs.getD j zc)) = false := decide_eq_false hok
        have hE := encE_bad HS.out (getD_mem HJ.out) hok
        have HE := Lib.hid hE
        have HD := Lib.hid hD
        clear hok hD hE hF
        generalize cs.getD j zc = x at *
        go_wp2_with fail
        refine (HEC.out _).mono ?_
        rintro e w2 ⟨rfl, k⟩
        rw [HD.out]
        have hG6 := hGr.trans k
        clear k
        go_wp2_with fail
        go_ret2
        exact ⟨hG6, .inr ⟨by rw [HE.out]; decide, by rw [HE.out]; rfl⟩⟩
    · obtain rfl : j = n := by omega
      have hok : ∀ c ∈ cs, okC c := by
        have := HALL.out
        rwa [List.take_of_length_le (by rw [← HN.out]; omega)] at this
      have HE := Lib.hid (encE_ok HS.out hok)
      have HOK := Lib.hid hok
      have r0 := hF.m0
      have r1 := hF.m1
      have r2 := hF.m2
      have r3 := hF.m3
      rw [HN.out, fmap_all] at r0 r1 r2 r3
      rw [← HN.out] at r0 r1 r2 r3
      have hsz := hGr.size
      have HS0 := Lib.hid (second_any _ _ wr r0.rd (frs_i64 HOK.out) (by rw [List.length_map]; have := HS.out; omega))
      clear hok hF
      go_wp2_with fail
      refine HS0.out.mono ?_
      rintro e w1 ⟨u0, rfl, p0, q0⟩
      have HS1 := Lib.hid (differences_any _ _ w1 (r1.grew q0).rd (map_i64 fL (fun c => wrap_I64 _)) (by rw [List.length_map]; have := HS.out; omega))
      go_wp2_with fail
      refine HS1.out.mono ?_
      rintro e w2 ⟨u1, rfl, p1, q1⟩
      have HS2 := Lib.hid (differences_any _ _ w2 ((r2.grew q0).grew q1).rd (los_i64 HOK.out) (by rw [List.length_map]; have := HS.out; omega))
      go_wp2_with fail
      refine HS2.out.mono ?_
      rintro e w3 ⟨u2, rfl, p2, q2⟩
      have HS3 := Lib.hid (differences_any _ _ w3 (((r3.grew q0).grew q1).grew q2).rd (map_i64 fW (fun c => wrap_I64 _)) (by rw [List.length_map]; have := HS.out; omega))
      go_wp2_with fail
      refine HS3.out.mono ?_
      rintro e w4 ⟨u3, rfl, p3, q3⟩
      have hG4 := (((hGr.trans q0).trans q1).trans q2).trans q3
      have HC := Lib.hid (rcode_any (j : Nat) w4 (by unfold I64; omega))
      have g1 := hGr.trans q0
      have g2 := g1.trans q1
      have g3 := g2.trans q2
      have d0 := (((p0.grew q1).grew q2).grew q3).base_le hsz
      have d1 := ((p1.grew q2).grew q3).base_le g1.size
      have d2 := (p2.grew q3).base_le g2.size
      have d3 := p3.base_le g3.size
      clear HS0 HS1 HS2 HS3 p0 p1 p2 p3 q0 q1 q2 q3 r0 r1 r2 r3 g1 g2 g3 HALL
      go_wp2_with fail
      refine HC.out.mono ?_
      rintro e w5 ⟨u5, rfl, m1, m2⟩
      have hG5 := hG4.trans m2
      obtain ⟨D0, l0, k0, rfl, h0⟩ := d0.slice
      obtain ⟨D1, l1, k1, rfl, h1⟩ := d1.slice
      obtain ⟨D2, l2, k2, rfl, h2⟩ := d2.slice
      obtain ⟨D3, l3, k3, rfl, h3⟩ := d3.slice
      obtain ⟨D5, l5, k5, rfl, h5⟩ := m1.slice
      obtain rfl : l0 = j := by rw [h0, List.length_map, seconds_length, List.length_map]; exact HN.out.symm
      obtain rfl : l1 = l0 := by rw [h1, List.length_map, diffs_length, List.length_map]; exact HN.out.symm
      obtain rfl : l2 = l1 := by rw [h2, List.length_map, diffs_length, List.length_map]; exact HN.out.symm
      obtain rfl : l3 = l2 := by rw [h3, List.length_map, diffs_length, List.length_map]; exact HN.out.symm
      have e0 := d0.grew m2
      have e1 := d1.grew m2
      have e2 := d2.grew m2
      have e3 := d3.grew m2
      have m5 := m1.base_le hG4.size
      have E0 := Lib.hid e0
      have E1 := Lib.hid e1
      have E2 := Lib.hid e2
      have E3 := Lib.hid e3
      have M5 := Lib.hid m5
      have HG5 := Lib.hid hG5
      clear HC d0 d1 d2 d3 m1 m2 hG4 hGr h0 h1 h2 h3 h5 e0 e1 e2 e3 m5 hG5 hsz
      go_wp2_with fail
      go_loopw [10, 11] (fun a i wr => ∃ (j m : Nat) (A : Option Addr) (c : Nat), j ≤ l3 ∧ i = .int .i64 j ∧ a = .slice A m c ∧ Mine wr w.heap.size 4 (.slice A m c) ((code l3 ++ codes ((cnums zc zc cs).take (4 * j))).map vbo) ∧
          Mine wr w.heap.size 3 (.slice D0 l3 k0) ((seconds 0 0 (cs.map fF)).map vi) ∧ Mine wr w.heap.size 3 (.slice D1 l3 k1) ((diffs 0 (cs.map fL)).map vi) ∧ Mine wr w.heap.size 3 (.slice D2 l3 k2) ((diffs 0 (cs.map fO)).map vi) ∧ Mine wr w.heap.size 3 (.slice D3 l3 k3) ((diffs 0 (cs.map fW)).map vi) ∧ Grew w wr) (fun _ i _ => l3 - (intOf i).toNat)
      case atStart => exact ⟨0, _, _, _, by omega, rfl, rfl, by simpa [codes] using M5.out, E0.out, E1.out, E2.out, E3.out, HG5.out⟩
      case round =>
        clear E0 E1 E2 E3 M5 HG5
        obtain ⟨j, m, B, d, hj, rfl, rfl, hM, e0, e1, e2, e3, hG⟩ := hrel
        have hsz := hG.size
        have hlen : (code l3 ++ codes ((cnums zc zc cs).take (4 * j))).length ≤ 70 + 280 * j := by
          have h1 := code_len_le l3
          have h2 := codes_len ((cnums zc zc cs).take (4 * j))
          have h3 : ((cnums zc zc cs).take (4 * j)).length ≤ 4 * j := List.length_take_le _ _
          rw [List.length_append]; omega
        by_cases hlt : j < l3
        · have hjl : j < cs.length := by rw [← HN.out]; exact hlt
          obtain ⟨f0, f1, f2, f3⟩ := ref_c4 cs j hjl
          obtain ⟨b0, rfl, _, c0⟩ := e0.rd.int_at (j := j) (by rw [seconds_length, List.length_map]; exact hjl)
          obtain ⟨b1, rfl, _, c1⟩ := e1.rd.int_at (j := j) (by rw [diffs_length, List.length_map]; exact hjl)
          obtain ⟨b2, rfl, _, c2⟩ := e2.rd.int_at (j := j) (by rw [diffs_length, List.length_map]; exact hjl)
          obtain ⟨b3, rfl, _, c3⟩ := e3.rd.int_at (j := j) (by rw [diffs_length, List.length_map]; exact hjl)
          have hst : code l3 ++ codes ((cnums zc zc cs).take (4 * (j + 1))) = code l3 ++ codes ((cnums zc zc cs).take (4 * j)) ++ code (n0 (q2 cs j) (q1 cs j) (cs.getD j zc)) ++ code (n1 (q1 cs j) (cs.getD j zc)) ++ code (n2 (q1 cs j) (cs.getD j zc)) ++ code (n3 (q1 cs j) (cs.getD j zc)) := by
            rw [cnums_take cs j hjl, codes_c4]
          have HST := Lib.hid hst
          change (seconds 0 0 (cs.map fF)).getD j 0 = _ at f0
          change (diffs 0 (cs.map fL)).getD j 0 = _ at f1
          change (diffs 0 (cs.map fO)).getD j 0 = _ at f2
          change (diffs 0 (cs.map fW)).getD j 0 = _ at f3
          rw [f0] at c0
          have F1 := Lib.hid f1
          have F2 := Lib.hid f2
          have F3 := Lib.hid f3
          have hL1 : j < (diffs 0 (cs.map fL)).length := by rw [diffs_length, List.length_map]; exact hjl
          have hL2 : j < (diffs 0 (cs.map fO)).length := by rw [diffs_length, List.length_map]; exact hjl
          have hL3 : j < (diffs 0 (cs.map fW)).length := by rw [diffs_length, List.length_map]; exact hjl
          have L1 := Lib.hid hL1
          have L2 := Lib.hid hL2
          have L3 := Lib.hid hL3
          have hc0 := code_len_le (n0 (q2 cs j) (q1 cs j) (cs.getD j zc))
          have hc1 := code_len_le (n1 (q1 cs j) (cs.getD j zc))
          have hc2 := code_len_le (n2 (q1 cs j) (cs.getD j zc))
          have hc3 := code_len_le (n3 (q1 cs j) (cs.getD j zc))
          have i0 : I64 (n0 (q2 cs j) (q1 cs j) (cs.getD j zc)) := wrap_I64 _
          have i1 : I64 (n1 (q1 cs j) (cs.getD j zc)) := wrap_I64 _
          have i2 : I64 (n2 (q1 cs j) (cs.getD j zc)) := wrap_I64 _
          have i3 : I64 (n3 (q1 cs j) (cs.getD j zc)) := wrap_I64 _
          clear f0 f1 f2 f3 c1 c2 c3 hst hL1 hL2 hL3 hjl
          generalize n0 (q2 cs j) (q1 cs j) (cs.getD j zc) = y0 at *
          generalize n1 (q1 cs j) (cs.getD j zc) = y1 at *
          generalize n2 (q1 cs j) (cs.getD j zc) = y2 at *
          generalize n3 (q1 cs j) (cs.getD j zc) = y3 at *
          generalize code l3 ++ codes ((cnums zc zc cs).take (4 * j)) = s at *
          have H0 := Lib.hid (rcode_any y0 wr i0)
          go_wp2_with fail
          refine H0.out.mono ?_
          rintro e wa0 ⟨v0, rfl, p0, g0⟩
          obtain ⟨Z0, z0, x0, rfl, -⟩ := p0.slice
          have o0 := hM.grew g0
          have t0 := hG.trans g0
          have hs0 := t0.size
          go_wp2_with (at_builtin; refine app_any slBool rfl (.tmp 89) (.tmp 94) rfl rfl o0 rfl p0.rd (one_vbo _) (by simp only [List.length_map]; omega) hs0 ?_; intro A0 a0 cap0 wb0 hm0 hM0 hk0 hr0; rw [← List.map_append] at hM0; have e00 := (e0.grew g0).aside o0 (by decide) hk0; have e10 := (e1.grew g0).aside o0 (by decide) hk0; have e20 := (e2.grew g0).aside o0 (by decide) hk0; have e30 := (e3.grew g0).aside o0 (by decide) hk0; have G0 := Grew.app t0 o0 hk0; clear hm0 hk0 hr0; have c1 := e10.int_cell L1.out F1.out)
          have H1 := Lib.hid (rcode_any y1 wb0 i1)
          refine H1.out.mono ?_
          rintro e wa1 ⟨v1, rfl, p1, g1⟩
          obtain ⟨Z1, z1, x1, rfl, -⟩ := p1.slice
          have o1 := hM0.grew g1
          have t1 := G0.trans g1
          have hs1 := t1.size
          go_wp2_with (at_builtin; refine app_any slBool rfl (.tmp 96) (.tmp 101) rfl rfl o1 rfl p1.rd (one_vbo _) (by simp only [List.length_map, List.length_append]; omega) hs1 ?_; intro A1 a1 cap1 wb1 hm1 hM1 hk1 hr1; rw [← List.map_append] at hM1; have e01 := (e00.grew g1).aside o1 (by decide) hk1; have e11 := (e10.grew g1).aside o1 (by decide) hk1; have e21 := (e20.grew g1).aside o1 (by decide) hk1; have e31 := (e30.grew g1).aside o1 (by decide) hk1; have G1 := Grew.app t1 o1 hk1; clear hm1 hk1 hr1; have c2 := e21.int_cell L2.out F2.out)
          have H2 := Lib.hid (rcode_any y2 wb1 i2)
          refine H2.out.mono ?_
          rintro e wa2 ⟨v2, rfl, p2, g2⟩
          obtain ⟨Z2, z2, x2, rfl, -⟩ := p2.slice
          have o2 := hM1.grew g2
          have t2 := G1.trans g2
          have hs2 := t2.size
          go_wp2_with (at_builtin; refine app_any slBool rfl (.tmp 103) (.tmp 108) rfl rfl o2 rfl p2.rd (one_vbo _) (by simp only [List.length_map, List.length_append]; omega) hs2 ?_; intro A2 a2 cap2 wb2 hm2 hM2 hk2 hr2; rw [← List.map_append] at hM2; have e02 := (e01.grew g2).aside o2 (by decide) hk2; have e12 := (e11.grew g2).aside o2 (by decide) hk2; have e22 := (e21.grew g2).aside o2 (by decide) hk2; have e32 := (e31.grew g2).aside o2 (by decide) hk2; have G2 := Grew.app t2 o2 hk2; clear hm2 hk2 hr2; have c3 := e32.int_cell L3.out F3.out)
          have H3 := Lib.hid (rcode_any y3 wb2 i3)
          refine H3.out.mono ?_
          rintro e wa3 ⟨v3, rfl, p3, g3⟩
          obtain ⟨Z3, z3, x3, rfl, -⟩ := p3.slice
          have o3 := hM2.grew g3
          have t3 := G2.trans g3
          have hs3 := t3.size
          go_wp2_with (at_builtin; refine app_any slBool rfl (.tmp 110) (.tmp 115) rfl rfl o3 rfl p3.rd (one_vbo _) (by simp only [List.length_map, List.length_append]; omega) hs3 ?_; intro A3 a3 cap3 wb3 hm3 hM3 hk3 hr3; rw [← List.map_append] at hM3; have e03 := (e02.grew g3).aside o3 (by decide) hk3; have e13 := (e12.grew g3).aside o3 (by decide) hk3; have e23 := (e22.grew g3).aside o3 (by decide) hk3; have e33 := (e32.grew g3).aside o3 (by decide) hk3; have G3 := Grew.app t3 o3 hk3; clear hm3 hk3 hr3)
          rw [← HST.out] at hM3
          go_wp2_with fail
          go_roundw
          case rel => exact ⟨j + 1, _, _, _, by omega, by go_num, rfl, hM3, e03, e13, e23, e33, G3⟩
          case measure => simp [intOf]; omega
        · obtain rfl : j = l3 := by omega
          have hall : code j ++ codes ((cnums zc zc cs).take (4 * j)) = cbits cs := by
            unfold cbits
            rw [List.take_of_length_le (by rw [cnums_length, ← HN.out]; omega), ← HN.out]
          rw [hall] at hM hlen
          have HP := Lib.hid (pack_any _ (cbits cs) wr hM.rd (by omega))
          clear hall
          go_wp2_with fail
          refine HP.out.mono ?_
          rintro e w6 ⟨v6, rfl, p1, p2⟩
          go_wp2_with fail
          go_ret2
          exact ⟨hG.trans p2, .inl ⟨HE.out, _, rfl, p1.base_le hsz⟩⟩
end Go.Proofs.YtjiiiimhegkklaaDoor
