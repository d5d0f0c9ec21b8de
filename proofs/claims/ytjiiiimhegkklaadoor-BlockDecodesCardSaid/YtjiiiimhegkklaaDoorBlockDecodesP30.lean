/- The reference's reader of bytes: its state, unsigned numbers. -/
import Derived.Test.YtjiiiimhegkklaaDoorBlockDecodesP23
import Derived.Deep.Slices
namespace Go.Proofs.YtjiiiimhegkklaaDoor
open Go.RowKit Pl

theorem Rd.drop {w : World} {B : Nat} {ad : Addr} {n c : Nat} {xs : List Value} (h : Rd w B (.slice (some ad) n c) xs) {k : Nat} (hk : k ≤ xs.length) : Rd w B (.slice (some (ad.add k)) (n - k) (c - k)) (xs.drop k) := by
  obtain ⟨A, c', hv, hc, hx⟩ := h
  injection hv with e1 e2 e3
  subst e1 e2 e3
  refine ⟨_, c - k, by rw [List.length_drop], by rw [List.length_drop]; omega, fun h0 => ?_⟩
  rw [List.length_drop] at h0
  obtain ⟨ad', e, hb, hcell⟩ := hx (by omega)
  injection e with e
  subst e
  refine ⟨_, rfl, by rw [block_add]; exact hb, fun j u hu => ?_⟩
  rw [Go.Deep.add_add]
  exact hcell (k + j) u (by rw [List.getElem?_drop] at hu; exact hu)
theorem Rd.gone {w : World} {B : Nat} {A : Option Addr} {n c : Nat} {xs : List Value} (h : Rd w B (.slice A n c) xs) {k : Nat} (hk : xs.length ≤ k) (A' : Option Addr) : Rd w B (.slice A' (n - k) (c - k)) (xs.drop k) := by
  obtain ⟨A0, c', hv, hc, _⟩ := h
  injection hv with e1 e2 e3
  subst e3
  rw [List.drop_eq_nil_of_le hk]
  have hz : n - k = 0 := by omega
  rw [hz]
  exact ⟨A', c - k, rfl, by simp, fun h => by simp at h⟩
theorem Rd.takes {w : World} {B : Nat} {A : Option Addr} {n c : Nat} {xs : List Value} (h : Rd w B (.slice A n c) xs) {k : Nat} (hk : k ≤ xs.length) : Rd w B (.slice A k c) (xs.take k) := by
  obtain ⟨A', c', hv, hc, hx⟩ := h
  injection hv with e1 e2 e3
  subst e1 e2 e3
  have hl : (xs.take k).length = k := by rw [List.length_take]; omega
  refine ⟨A, c, by rw [hl], by omega, fun h0 => ?_⟩
  obtain ⟨ad, e, hb, hcell⟩ := hx (by omega)
  refine ⟨ad, e, hb, fun j u hu => hcell j u ?_⟩
  rw [List.getElem?_take] at hu
  split at hu
  · exact hu
  · cases hu
/- the reader in block g: what is left, the error -/
structure RF (w : World) (g : Nat) (v : Value) (t : List Nat) (er : Int) : Prop where
  box : Box w g 139 #[v, .int .i64 er]
  read : Rd w g v (t.map vb)
  bytes : Bytes t
  small : t.length ≤ 1000000
  nilc : ∀ n c, v = .slice none n c → c = 0
def stF (t : List Nat) (er : Int) : RSt := if er = 0 then .inr t else .inl er
theorem stF_ok (t : List Nat) : stF t 0 = .inr t := rfl
theorem stF_err (t : List Nat) {er : Int} (h : er ≠ 0) : stF t er = .inl er := if_neg h
section
variable {w w' : World} {g : Nat} {v : Value} {t : List Nat} {er : Int} {S : Nat → Prop}
theorem RF.keepR {g' : Nat} (h : RF w g v t er) (hk : KeepsR g' w w') (hg : g < g') : RF w' g v t er :=
  ⟨h.box.keep hk (by omega), h.read.keep (Nat.le_of_lt h.box.lt) hk (fun i hi e => by omega), h.bytes, h.small, h.nilc⟩
theorem RF.grew (h : RF w g v t er) (hk : Grew w w') : RF w' g v t er :=
  ⟨h.box.grew hk, h.read.grew (Nat.le_of_lt h.box.lt) hk, h.bytes, h.small, h.nilc⟩
theorem RF.setErr (h : RF w g v t er) (x : Int) : RF (w.setCell ⟨g, 1, none⟩ (.int .i64 x)) g v t x :=
  ⟨by simpa using h.box.set_ 1 (.int .i64 x), h.read.keep (Nat.le_of_lt h.box.lt) (KeepsR.set g w 1 _) (fun i hi e => by omega), h.bytes, h.small, h.nilc⟩
theorem RF.setB {v' : Value} {t' : List Nat} (h : RF w g v t er) (hr : Rd w g v' (t'.map vb)) (hb : Bytes t') (hs : t'.length ≤ 1000000) (hz : ∀ n c, v' = .slice none n c → c = 0) : RF (w.setCell ⟨g, 0, none⟩ v') g v' t' er :=
  ⟨by simpa using h.box.set_ 0 v', hr.keep (Nat.le_of_lt h.box.lt) (KeepsR.set g w 0 _) (fun i hi e => by omega), hb, hs, hz⟩
theorem RF.cells (h : RF w g v t er) : w.cell? ⟨g, 0, none⟩ = some v ∧ w.cell? ⟨g, 1, none⟩ = some (.int .i64 er) := ⟨h.box.cell 0, h.box.cell 1⟩
end
theorem bytes_drop {t : List Nat} (h : Bytes t) (k : Nat) : Bytes (t.drop k) := fun x hx => h x (List.mem_of_mem_drop hx)
theorem bytes_take {t : List Nat} (h : Bytes t) (k : Nat) : Bytes (t.take k) := fun x hx => h x (List.mem_of_mem_take hx)
def UFPost (g : Nat) (w : World) (o : Nat × RSt) (e : Ending) (w' : World) : Prop :=
  e = .returned (.int .u64 (o.1 : Nat)) ∧ KeepsR g w w' ∧ ∃ v t er, RF w' g v t er ∧ stF t er = o.2

set_option maxHeartbeats 12800000 in
set_option maxRecDepth 100000 in
theorem uintF_any (g : Nat) (v : Value) (t : List Nat) (er : Int) (w : World) (h : RF w g v t er) :
    Calls Tryd.prog 95 #[.pointer (some ⟨g, 0, none⟩)] w (UFPost g w (sU (stF t er))) := by
  obtain ⟨c0, c1⟩ := h.cells
  by_cases he : er ≠ 0
  · rw [stF_err t he, sU_inl]
    have H := Lib.hid h
    have t0 : (er == 0) = false := by simpa using he
    have HE := Lib.hid he
    clear h he
    go_enter Tryd.func95, Tryd.ntmps95
    go_wp2_with fail
    go_loopw [3, 4, 5] (fun _ _ _ wr => wr = w) (fun _ _ _ _ => 0)
    case atStart => rfl
    case round =>
      obtain rfl := hrel
      go_wp2_with fail
      go_ret
      exact ⟨rfl, KeepsR.refl _ _, v, t, er, H.out, stF_err t HE.out⟩
  obtain rfl : er = 0 := by omega
  rw [stF_ok]
  obtain ⟨o, ho⟩ : ∃ o, o = sU (.inr t) := ⟨_, rfl⟩
  rw [← ho]
  have HO := Lib.hid ho
  have H := Lib.hid h
  have hsm := h.small
  obtain ⟨A, n, c, rfl, hn, hcc⟩ := h.read.form
  rw [List.length_map] at hn
  have HN := Lib.hid hn
  clear h ho he hn
  go_enter Tryd.func95, Tryd.ntmps95
  go_wp2_with fail
  go_loopw [3, 4, 5] (fun x z y wr => ∃ (i acc U : Nat), x = .int .u64 (acc : Nat) ∧ z = .int .u64 (U : Nat) ∧ y = .int .i64 (i : Nat) ∧ U = 128 ^ i ∧ i ≤ 9 ∧ i ≤ n ∧ acc < 128 ^ i ∧ wr = w ∧ uP 0 0 t = uP i acc (t.drop i)) (fun _ _ y _ => 10 - (intOf y).toNat)
  case atStart => exact ⟨0, 0, 1, rfl, rfl, rfl, rfl, by omega, by omega, by decide, rfl, rfl⟩
  case round =>
    obtain ⟨i, acc, U, rfl, rfl, rfl, hUU, hi, hin, hacc, rfl, hU⟩ := hrel
    have HU := Lib.hid hU
    have HAcc := Lib.hid hacc
    have HUU := Lib.hid hUU
    have f1 := H.out.box.frozen 1
    have f0 := H.out.box.frozen 0
    clear hU hacc hUU
    by_cases hend : n ≤ i
    · have hu : uP 0 0 t = .inl 3 := by rw [HU.out, List.drop_eq_nil_of_le (by rw [← HN.out]; exact hend)]; rfl
      have hoo := HO.out
      rw [sU_err hu] at hoo
      have HOO := Lib.hid hoo
      have te : decide (n ≤ i) = true := by simp [hend]
      clear hu hoo hend
      go_wp2_with fail
      go_ret
      rw [HOO.out]
      exact ⟨rfl, KeepsR.set g _ 1 _, _, t, 3, H.out.setErr 3, rfl⟩
    · have hlt : i < n := by omega
      have hlt' : i < t.length := by rw [← HN.out]; exact hlt
      have te : decide (n ≤ i) = false := by simp; omega
      obtain ⟨ad, rfl, hadb, hcell⟩ := H.out.read.byte_at hlt'
      have hcb := getD_byte H.out.bytes i
      have hdrop : t.drop i = t.getD i 0 :: t.drop (i + 1) := by
        rw [List.drop_eq_getElem_cons hlt', List.getD_eq_getElem?_getD, List.getElem?_eq_getElem hlt']; rfl
      have hu := HU.out
      rw [hdrop] at hu
      have HU2 := Lib.hid hu
      generalize t.getD i 0 = b at *
      have hrd := H.out.read.drop (k := i + 1) (by rw [List.length_map]; omega)
      have HRD := Lib.hid hrd
      clear hu hdrop HU hend hlt' hrd
      have hcase : ((i = 9 ∧ 1 < b) ∨ (i = 9 ∧ b = 0) ∨ (i ≠ 9 ∧ 0 < i ∧ b = 0)) ∨ ((i = 9 ∧ b = 1) ∨ (i ≠ 9 ∧ 0 < i ∧ b ≠ 0 ∧ b < 128) ∨ (i = 0 ∧ b < 128)) ∨ ((i ≠ 9 ∧ 0 < i ∧ b ≠ 0 ∧ ¬ b < 128) ∨ (i = 0 ∧ ¬ b < 128)) := by omega
      have hU63 : U ≤ 9223372036854775808 := by
        have h1 : 128 ^ i ≤ 128 ^ 9 := Nat.pow_le_pow_right (by omega) hi
        have h2 := HUU.out
        have h3 : (128 : Nat) ^ 9 = 9223372036854775808 := by decide
        omega
      have hacU : acc < U := by rw [HUU.out]; exact HAcc.out
      rcases hcase with hc | hc | hc
      · have hu := HU2.out
        rw [uP_bad (by omega)] at hu
        have hoo := HO.out
        rw [sU_err hu] at hoo
        have HOO := Lib.hid hoo
        clear hu hoo HU2 HO hU63 hacU
        rcases hc with ⟨h1, h2⟩ | ⟨h1, h2⟩ | ⟨h1, h2, h3⟩
        · have t9 : ((i : Int) == 9) = true := by simp; omega
          have t9n : (i == 9) = true := by simp; omega
          have t1 : decide (1 < b) = true := by simp; omega
          have t1i : decide ((1 : Int) < (b : Int)) = true := by simp; omega
          clear h1 h2
          go_wp2_with fail
          go_ret
          rw [HOO.out]
          exact ⟨rfl, KeepsR.set g _ 1 _, _, t, 2, H.out.setErr 2, rfl⟩
        · have t9 : ((i : Int) == 9) = true := by simp; omega
          have t9n : (i == 9) = true := by simp; omega
          have t1 : decide (1 < b) = false := by simp; omega
          have t1i : decide ((1 : Int) < (b : Int)) = false := by simp; omega
          have t0 : decide (0 < i) = true := by simp; omega
          have t0i : decide ((0 : Int) < (i : Int)) = true := by simp; omega
          have tc : (b == 0) = true := by simp; omega
          have tci : ((b : Int) == 0) = true := by simp; omega
          clear h1 h2
          go_wp2_with fail
          go_ret
          rw [HOO.out]
          exact ⟨rfl, KeepsR.set g _ 1 _, _, t, 2, H.out.setErr 2, rfl⟩
        · have t9 : ((i : Int) == 9) = false := by simp; omega
          have t9n : (i == 9) = false := by simp; omega
          have t0 : decide (0 < i) = true := by simp; omega
          have t0i : decide ((0 : Int) < (i : Int)) = true := by simp; omega
          have tc : (b == 0) = true := by simp; omega
          have tci : ((b : Int) == 0) = true := by simp; omega
          clear h1 h2 h3
          go_wp2_with fail
          go_ret
          rw [HOO.out]
          exact ⟨rfl, KeepsR.set g _ 1 _, _, t, 2, H.out.setErr 2, rfl⟩
      · have hu := HU2.out
        have hm1 : b % 128 * U < 18446744073709551616 := by
          by_cases h9 : i = 9
          · have hb1 : b % 128 ≤ 1 := by omega
            have := Nat.mul_le_mul_right U hb1
            omega
          · have hU56 : U ≤ 72057594037927936 := by
              have h1 : 128 ^ i ≤ 128 ^ 8 := Nat.pow_le_pow_right (by omega) (by omega)
              have h2 := HUU.out
              have h3 : (128 : Nat) ^ 8 = 72057594037927936 := by decide
              omega
            have hb1 : b % 128 ≤ 127 := by omega
            have := Nat.mul_le_mul hb1 hU56
            omega
        have hm2 : acc + b % 128 * U < 18446744073709551616 := by
          by_cases h9 : i = 9
          · have hb1 : b % 128 ≤ 1 := by omega
            have := Nat.mul_le_mul_right U hb1
            omega
          · have hU56 : U ≤ 72057594037927936 := by
              have h1 : 128 ^ i ≤ 128 ^ 8 := Nat.pow_le_pow_right (by omega) (by omega)
              have h2 := HUU.out
              have h3 : (128 : Nat) ^ 8 = 72057594037927936 := by decide
              omega
            have hb1 : b % 128 ≤ 127 := by omega
            have := Nat.mul_le_mul hb1 hU56
            omega
        have hor : IntKind.u64.wrap ((acc : Int) + IntKind.u64.wrap ((b : Int) % 128 * (U : Int))) = ((acc + b % 128 * U : Nat) : Int) := by
          have e1 : (b : Int) % 128 * (U : Int) = ((b % 128 * U : Nat) : Int) := by push_cast; rfl
          rw [e1, IntKind.wrap_u64, IntKind.wrap_u64]
          omega
        rw [HUU.out] at hor
        rw [uP_end (by omega) (by omega)] at hu
        have hoo := HO.out
        rw [sU_ok hu] at hoo
        have HOO := Lib.hid hoo
        have HOR := Lib.hid hor
        clear hu hoo HU2 HO hor hm1 hm2 hU63 hacU
        rcases hc with ⟨h1, h2⟩ | ⟨h1, h2, h3, h4⟩ | ⟨h1, h2⟩
        · have t9 : ((i : Int) == 9) = true := by simp; omega
          have t9n : (i == 9) = true := by simp; omega
          have t1 : decide (1 < b) = false := by simp; omega
          have t1i : decide ((1 : Int) < (b : Int)) = false := by simp; omega
          have t0 : decide (0 < i) = true := by simp; omega
          have t0i : decide ((0 : Int) < (i : Int)) = true := by simp; omega
          have tc : (b == 0) = false := by simp; omega
          have tci : ((b : Int) == 0) = false := by simp; omega
          have tl : decide (b < 128) = true := by simp; omega
          have tli : decide ((b : Int) < 128) = true := by simp; omega
          have hi8 : i ≤ 9 := by omega
          clear h1 h2
          by_cases hc1 : c = i + 1
          · have hn1 : n = i + 1 := by omega
            have hgone : Rd wr g (.slice (some ad) 0 0) ((t.drop (i + 1)).map vb) := by
              rw [List.drop_eq_nil_of_le (by rw [← HN.out]; omega)]
              exact ⟨some ad, 0, rfl, Nat.le_refl _, fun h => by simp at h⟩
            have HGO := Lib.hid hgone
            clear hgone HRD
            obtain rfl := hn1
            obtain rfl := hc1
            go_wp2_with fail
            go_ret
            rw [HOO.out]
            exact ⟨by rw [HUU.out, HOR.out]; rfl, KeepsR.set g _ 0 _, _, t.drop (i + 1), 0, H.out.setB HGO.out (bytes_drop H.out.bytes _) (by rw [List.length_drop]; omega) (fun _ _ e => by cases e), rfl⟩
          · go_wp2_with fail
            go_ret
            rw [HOO.out]
            refine ⟨by rw [HUU.out, HOR.out]; rfl, KeepsR.set g _ 0 _, _, t.drop (i + 1), 0, H.out.setB ?_ (bytes_drop H.out.bytes _) (by rw [List.length_drop]; omega) (fun _ _ e => by cases e), rfl⟩
            have := HRD.out
            rw [← List.map_drop, show ad.add (i + 1) = ⟨ad.block, ad.off + (i + 1), none⟩ by simp [Addr.add]] at this
            exact this
        · have t9 : ((i : Int) == 9) = false := by simp; omega
          have t9n : (i == 9) = false := by simp; omega
          have t0 : decide (0 < i) = true := by simp; omega
          have t0i : decide ((0 : Int) < (i : Int)) = true := by simp; omega
          have tc : (b == 0) = false := by simp; omega
          have tci : ((b : Int) == 0) = false := by simp; omega
          have tl : decide (b < 128) = true := by simp; omega
          have tli : decide ((b : Int) < 128) = true := by simp; omega
          have hi8 : i ≤ 9 := by omega
          clear h3 h4
          by_cases hc1 : c = i + 1
          · have hn1 : n = i + 1 := by omega
            have hgone : Rd wr g (.slice (some ad) 0 0) ((t.drop (i + 1)).map vb) := by
              rw [List.drop_eq_nil_of_le (by rw [← HN.out]; omega)]
              exact ⟨some ad, 0, rfl, Nat.le_refl _, fun h => by simp at h⟩
            have HGO := Lib.hid hgone
            clear hgone HRD
            obtain rfl := hn1
            obtain rfl := hc1
            go_wp2_with fail
            go_ret
            rw [HOO.out]
            exact ⟨by rw [HUU.out, HOR.out]; rfl, KeepsR.set g _ 0 _, _, t.drop (i + 1), 0, H.out.setB HGO.out (bytes_drop H.out.bytes _) (by rw [List.length_drop]; omega) (fun _ _ e => by cases e), rfl⟩
          · go_wp2_with fail
            go_ret
            rw [HOO.out]
            refine ⟨by rw [HUU.out, HOR.out]; rfl, KeepsR.set g _ 0 _, _, t.drop (i + 1), 0, H.out.setB ?_ (bytes_drop H.out.bytes _) (by rw [List.length_drop]; omega) (fun _ _ e => by cases e), rfl⟩
            have := HRD.out
            rw [← List.map_drop, show ad.add (i + 1) = ⟨ad.block, ad.off + (i + 1), none⟩ by simp [Addr.add]] at this
            exact this
        · have t9 : ((i : Int) == 9) = false := by simp; omega
          have t9n : (i == 9) = false := by simp; omega
          have t0 : decide (0 < i) = false := by simp; omega
          have t0i : decide ((0 : Int) < (i : Int)) = false := by simp; omega
          have tl : decide (b < 128) = true := by simp; omega
          have tli : decide ((b : Int) < 128) = true := by simp; omega
          have hi8 : i ≤ 9 := by omega
          clear h1 h2
          by_cases hc1 : c = i + 1
          · have hn1 : n = i + 1 := by omega
            have hgone : Rd wr g (.slice (some ad) 0 0) ((t.drop (i + 1)).map vb) := by
              rw [List.drop_eq_nil_of_le (by rw [← HN.out]; omega)]
              exact ⟨some ad, 0, rfl, Nat.le_refl _, fun h => by simp at h⟩
            have HGO := Lib.hid hgone
            clear hgone HRD
            obtain rfl := hn1
            obtain rfl := hc1
            go_wp2_with fail
            go_ret
            rw [HOO.out]
            exact ⟨by rw [HUU.out, HOR.out]; rfl, KeepsR.set g _ 0 _, _, t.drop (i + 1), 0, H.out.setB HGO.out (bytes_drop H.out.bytes _) (by rw [List.length_drop]; omega) (fun _ _ e => by cases e), rfl⟩
          · go_wp2_with fail
            go_ret
            rw [HOO.out]
            refine ⟨by rw [HUU.out, HOR.out]; rfl, KeepsR.set g _ 0 _, _, t.drop (i + 1), 0, H.out.setB ?_ (bytes_drop H.out.bytes _) (by rw [List.length_drop]; omega) (fun _ _ e => by cases e), rfl⟩
            have := HRD.out
            rw [← List.map_drop, show ad.add (i + 1) = ⟨ad.block, ad.off + (i + 1), none⟩ by simp [Addr.add]] at this
            exact this
      · have hu := HU2.out
        have hm1 : b % 128 * U < 18446744073709551616 := by
          by_cases h9 : i = 9
          · have hb1 : b % 128 ≤ 1 := by omega
            have := Nat.mul_le_mul_right U hb1
            omega
          · have hU56 : U ≤ 72057594037927936 := by
              have h1 : 128 ^ i ≤ 128 ^ 8 := Nat.pow_le_pow_right (by omega) (by omega)
              have h2 := HUU.out
              have h3 : (128 : Nat) ^ 8 = 72057594037927936 := by decide
              omega
            have hb1 : b % 128 ≤ 127 := by omega
            have := Nat.mul_le_mul hb1 hU56
            omega
        have hm2 : acc + b % 128 * U < 18446744073709551616 := by
          by_cases h9 : i = 9
          · have hb1 : b % 128 ≤ 1 := by omega
            have := Nat.mul_le_mul_right U hb1
            omega
          · have hU56 : U ≤ 72057594037927936 := by
              have h1 : 128 ^ i ≤ 128 ^ 8 := Nat.pow_le_pow_right (by omega) (by omega)
              have h2 := HUU.out
              have h3 : (128 : Nat) ^ 8 = 72057594037927936 := by decide
              omega
            have hb1 : b % 128 ≤ 127 := by omega
            have := Nat.mul_le_mul hb1 hU56
            omega
        have hor : IntKind.u64.wrap ((acc : Int) + IntKind.u64.wrap ((b : Int) % 128 * (U : Int))) = ((acc + b % 128 * U : Nat) : Int) := by
          have e1 : (b : Int) % 128 * (U : Int) = ((b % 128 * U : Nat) : Int) := by push_cast; rfl
          rw [e1, IntKind.wrap_u64, IntKind.wrap_u64]
          omega
        rw [HUU.out] at hor
        rw [uP_on (by omega) (by omega)] at hu
        have HU3 := Lib.hid hu
        have HOR := Lib.hid hor
        have hac2 : acc + b % 128 * 128 ^ i < 128 ^ (i + 1) := by
          have h1 : b % 128 ≤ 127 := by omega
          have h2 := Nat.mul_le_mul_right (128 ^ i) h1
          have h3 := HAcc.out
          rw [Nat.pow_succ]; omega
        have HA2 := Lib.hid hac2
        have hU2 : IntKind.u64.wrap ((U : Int) * 128) = ((U * 128 : Nat) : Int) := by
          have h1 : 128 ^ i ≤ 128 ^ 8 := Nat.pow_le_pow_right (by omega) (by omega)
          have h2 := HUU.out
          have h3 : (128 : Nat) ^ 8 = 72057594037927936 := by decide
          rw [IntKind.wrap_u64]
          omega
        have HUM := Lib.hid hU2
        have HUN := Lib.hid (show U * 128 = 128 ^ (i + 1) by rw [HUU.out, Nat.pow_succ])
        clear hu HU2 HO hor hac2 hm1 hm2 hU2 hU63 hacU
        rcases hc with ⟨h1, h2, h3, h4⟩ | ⟨h1, h2⟩
        · have t9 : ((i : Int) == 9) = false := by simp; omega
          have t9n : (i == 9) = false := by simp; omega
          have t0 : decide (0 < i) = true := by simp; omega
          have t0i : decide ((0 : Int) < (i : Int)) = true := by simp; omega
          have tc : (b == 0) = false := by simp; omega
          have tci : ((b : Int) == 0) = false := by simp; omega
          have tl : decide (b < 128) = false := by simp; omega
          have tli : decide ((b : Int) < 128) = false := by simp; omega
          have hi8 : i ≤ 8 := by omega
          clear h3 h4
          go_wp2_with fail
          go_roundw
          case rel => exact ⟨i + 1, acc + b % 128 * 128 ^ i, U * 128, by rw [HUU.out, HOR.out], by rw [HUM.out], by go_num, HUN.out, by omega, by omega, HA2.out, trivial, HU3.out⟩
          case measure => simp [intOf]; omega
        · have t9 : ((i : Int) == 9) = false := by simp; omega
          have t9n : (i == 9) = false := by simp; omega
          have t0 : decide (0 < i) = false := by simp; omega
          have t0i : decide ((0 : Int) < (i : Int)) = false := by simp; omega
          have tl : decide (b < 128) = false := by simp; omega
          have tli : decide ((b : Int) < 128) = false := by simp; omega
          have hi8 : i ≤ 8 := by omega
          clear h1 h2
          go_wp2_with fail
          go_roundw
          case rel => exact ⟨i + 1, acc + b % 128 * 128 ^ i, U * 128, by rw [HUU.out, HOR.out], by rw [HUM.out], by go_num, HUN.out, by omega, by omega, HA2.out, trivial, HU3.out⟩
          case measure => simp [intOf]; omega
end Go.Proofs.YtjiiiimhegkklaaDoor
