/- The reference's reader of bytes: signed numbers, lengths, byte slices, the end. The reference's hash: mix, Words, Sum, Bytes. -/
import Derived.Test.YtjiiiimhegkklaaDoorBlockDecodesP30
import Derived.Test.YtjiiiimhegkklaaDoorBlockDecodesP11
import Derived.Test.YtjiiiimhegkklaaDoorBlockDecodesP19
import Derived.Test.YtjiiiimhegkklaaDoorBlockDecodesP08
namespace Go.Proofs.YtjiiiimhegkklaaDoor
open Go.RowKit Pl

def sLen (s : RSt) : Nat × RSt :=
  match sU s with
  | (_, .inl e) => (0, .inl e)
  | (n, .inr t) => if t.length < n then (0, .inl 3) else (n, .inr t)
theorem sLen_err {s : RSt} {n : Nat} {e : Int} (h : sU s = (n, .inl e)) : sLen s = (0, .inl e) := by unfold sLen; simp only [h]
theorem sLen_more {s : RSt} {n : Nat} {t : List Nat} (h : sU s = (n, .inr t)) (hn : t.length < n) : sLen s = (0, .inl 3) := by unfold sLen; simp only [h, if_pos hn]
theorem sLen_ok {s : RSt} {n : Nat} {t : List Nat} (h : sU s = (n, .inr t)) (hn : ¬ t.length < n) : sLen s = (n, .inr t) := by unfold sLen; simp only [h, if_neg hn]
theorem sRaw_len_err {s : RSt} {n : Nat} {e : Int} (h : sLen s = (n, .inl e)) : sRaw s = ([], .inl e) := by
  obtain ⟨z, u, hz⟩ : ∃ z u, sU s = (z, u) := ⟨_, _, rfl⟩
  rcases u with e' | t
  · rw [sLen_err hz] at h
    rw [sRaw_err hz]
    injection h with _ h2
    rw [h2]
  · by_cases hl : t.length < z
    · rw [sLen_more hz hl] at h
      rw [sRaw_more hz hl]
      injection h with _ h2
      rw [h2]
    · rw [sLen_ok hz hl] at h
      injection h with _ h2
      cases h2
theorem sRaw_len_ok {s : RSt} {n : Nat} {t : List Nat} (h : sLen s = (n, .inr t)) : sRaw s = (t.take n, .inr (t.drop n)) ∧ n ≤ t.length := by
  obtain ⟨z, u, hz⟩ : ∃ z u, sU s = (z, u) := ⟨_, _, rfl⟩
  rcases u with e' | t'
  · rw [sLen_err hz] at h
    injection h with _ h2
    cases h2
  · by_cases hl : t'.length < z
    · rw [sLen_more hz hl] at h
      injection h with _ h2
      cases h2
    · rw [sLen_ok hz hl] at h
      injection h with h1 h2
      injection h2 with h2
      subst h1 h2
      exact ⟨sRaw_ok hz hl, by omega⟩
set_option maxHeartbeats 1600000 in
theorem intF_any (g : Nat) (v : Value) (t : List Nat) (er : Int) (w : World) (h : RF w g v t er) :
    Calls Tryd.prog 97 #[.pointer (some ⟨g, 0, none⟩)] w fun e w' => e = .returned (.int .i64 (sI (stF t er)).1) ∧ KeepsR g w w' ∧ ∃ v' t' er', RF w' g v' t' er' ∧ stF t' er' = (sI (stF t er)).2 := by
  have HU := Lib.hid (uintF_any g v t er w h)
  have hz := sU_lt (stF t er)
  unfold sI
  generalize sU (stF t er) = o at *
  obtain ⟨z, s⟩ := o
  simp only at hz ⊢
  have HB := Lib.hid (fun w' => back_any z w' hz)
  clear h
  go_enter Tryd.func97, Tryd.ntmps97
  go_wp2_with fail
  refine HU.out.mono ?_
  rintro e w2 ⟨rfl, k2, v2, t2, er2, W2, s2⟩
  simp only at s2
  clear HU
  go_wp2_with fail
  refine (HB.out w2).mono ?_
  rintro e w3 ⟨rfl, rfl⟩
  go_wp2_with fail
  go_ret
  exact ⟨rfl, k2, v2, t2, er2, W2, s2⟩
set_option maxHeartbeats 1600000 in
theorem endF_any (g : Nat) (v : Value) (t : List Nat) (er : Int) (w : World) (h : RF w g v t er) :
    Calls Tryd.prog 96 #[.pointer (some ⟨g, 0, none⟩)] w fun e w' => e = .returned (.int .i64 (sEnd (stF t er))) ∧ w' = w := by
  obtain ⟨c0, c1⟩ := h.cells
  obtain ⟨A, n, c, rfl, hn, hcc⟩ := h.read.form
  rw [List.length_map] at hn
  have hsm := h.small
  by_cases he : er ≠ 0
  · have t0 : (er == 0) = false := by simpa using he
    rw [stF_err t he]
    clear h he hn
    go_enter Tryd.func96, Tryd.ntmps96
    go_wp2_with fail
    go_ret
    exact ⟨rfl, rfl⟩
  obtain rfl : er = 0 := by omega
  rw [stF_ok]
  by_cases hl : 0 < n
  · have hE : sEnd (.inr t) = 2 := by
      rcases t with _ | ⟨x, t⟩
      · simp at hn; omega
      · rfl
    rw [hE]
    have td : decide (0 < n) = true := by simp [hl]
    have tdi : decide ((0 : Int) < (n : Int)) = true := by simp; omega
    clear h he hE hn
    go_enter Tryd.func96, Tryd.ntmps96
    go_wp2_with fail
    go_ret
    exact ⟨rfl, rfl⟩
  · have hE : sEnd (.inr t) = 0 := by
      rcases t with _ | ⟨x, t⟩
      · rfl
      · simp at hn; omega
    rw [hE]
    have td : decide (0 < n) = false := by simp; omega
    have tdi : decide ((0 : Int) < (n : Int)) = false := by simp; omega
    clear h he hE hn
    go_enter Tryd.func96, Tryd.ntmps96
    go_wp2_with fail
    go_ret
    exact ⟨rfl, rfl⟩
def LFPost (g : Nat) (w : World) (o : Nat × RSt) (e : Ending) (w' : World) : Prop :=
  e = .returned (.int .i64 (o.1 : Nat)) ∧ KeepsR g w w' ∧ ∃ v t er, RF w' g v t er ∧ stF t er = o.2
set_option maxHeartbeats 3200000 in
theorem lengthF_any (g : Nat) (v : Value) (t : List Nat) (er : Int) (w : World) (h : RF w g v t er) :
    Calls Tryd.prog 120 #[.pointer (some ⟨g, 0, none⟩)] w (LFPost g w (sLen (stF t er))) := by
  have HU := Lib.hid (uintF_any g v t er w h)
  have hz := sU_lt (stF t er)
  obtain ⟨o, ho⟩ : ∃ o, o = sLen (stF t er) := ⟨_, rfl⟩
  rw [← ho]
  have HO := Lib.hid ho
  obtain ⟨z, s, hzs⟩ : ∃ z s, sU (stF t er) = (z, s) := ⟨_, _, rfl⟩
  rw [hzs] at HU hz
  simp only at hz
  have HZS := Lib.hid hzs
  clear h ho hzs
  go_enter Tryd.func120, Tryd.ntmps120
  go_wp2_with fail
  refine HU.out.mono ?_
  rintro e w2 ⟨rfl, k2, v2, t2, er2, W2, s2⟩
  simp only at s2
  obtain ⟨c0, c1⟩ := W2.cells
  obtain ⟨A, n, c, rfl, hn, hcc⟩ := W2.read.form
  rw [List.length_map] at hn
  have hsm := W2.small
  have HN := Lib.hid hn
  have H2 := Lib.hid W2
  clear HU
  by_cases he : er2 ≠ 0
  · have t0 : (er2 == 0) = false := by simpa using he
    have t1 : (er2 != 0) = true := by simpa using he
    rw [stF_err t2 he] at s2
    have hoo := HO.out
    rw [sLen_err (by rw [HZS.out, ← s2])] at hoo
    have HOO := Lib.hid hoo
    have HE := Lib.hid (stF_err t2 he)
    clear he hn W2 hoo s2
    go_wp2_with fail
    go_ret
    rw [HOO.out]
    exact ⟨rfl, k2, _, t2, er2, H2.out, HE.out⟩
  obtain rfl : er2 = 0 := by omega
  rw [stF_ok] at s2
  by_cases hl : n < z
  · have hoo := HO.out
    rw [sLen_more (by rw [HZS.out, ← s2]) (by rw [← hn]; exact hl)] at hoo
    have HOO := Lib.hid hoo
    have f1 := W2.box.frozen 1
    have td : decide (n < z) = true := by simp [hl]
    have tdi : decide ((n : Int) < (z : Int)) = true := by simp; omega
    have hnl : n ≤ 1000000 := by omega
    clear he hn W2 hoo s2 hl
    go_wp2_with fail
    go_ret
    rw [HOO.out]
    exact ⟨rfl, k2.trans (KeepsR.set g _ 1 _), _, t2, 3, H2.out.setErr 3, rfl⟩
  · have hoo := HO.out
    rw [sLen_ok (by rw [HZS.out, ← s2]) (by rw [← hn]; exact hl)] at hoo
    have HOO := Lib.hid hoo
    have td : decide (n < z) = false := by simp; omega
    have tdi : decide ((n : Int) < (z : Int)) = false := by simp; omega
    have hnl : n ≤ 1000000 := by omega
    have hzl : z ≤ 1000000 := by omega
    clear he hn W2 hoo s2 hl
    go_wp2_with fail
    go_ret
    rw [HOO.out]
    exact ⟨rfl, k2, _, t2, 0, H2.out, rfl⟩
/- what Raw returns: the slice lies where the bytes lay -/
def RFPost (g : Nat) (w : World) (o : List Nat × RSt) (e : Ending) (w' : World) : Prop :=
  ∃ u, e = .returned u ∧ Rd w' g u (o.1.map vb) ∧ (∀ n c, u = .slice none n c → c = 0) ∧ KeepsR g w w' ∧ ∃ v t er, RF w' g v t er ∧ stF t er = o.2
set_option maxHeartbeats 3200000 in
theorem rawF_any (g : Nat) (v : Value) (t : List Nat) (er : Int) (w : World) (h : RF w g v t er) :
    Calls Tryd.prog 94 #[.pointer (some ⟨g, 0, none⟩)] w (RFPost g w (sRaw (stF t er))) := by
  have HL := Lib.hid (lengthF_any g v t er w h)
  obtain ⟨o, ho⟩ : ∃ o, o = sRaw (stF t er) := ⟨_, rfl⟩
  rw [← ho]
  have HO := Lib.hid ho
  obtain ⟨z, s, hzs⟩ : ∃ z s, sLen (stF t er) = (z, s) := ⟨_, _, rfl⟩
  rw [hzs] at HL
  have HZS := Lib.hid hzs
  clear h ho hzs
  go_enter Tryd.func94, Tryd.ntmps94
  go_wp2_with fail
  refine HL.out.mono ?_
  rintro e w2 ⟨rfl, k2, v2, t2, er2, W2, s2⟩
  simp only at s2
  obtain ⟨c0, c1⟩ := W2.cells
  obtain ⟨A, n, c, rfl, hn, hcc⟩ := W2.read.form
  rw [List.length_map] at hn
  have hsm := W2.small
  have HN := Lib.hid hn
  have H2 := Lib.hid W2
  clear HL
  by_cases he : er2 ≠ 0
  · have t1 : (er2 != 0) = true := by simpa using he
    rw [stF_err t2 he] at s2
    have hoo := HO.out
    rw [sRaw_len_err (by rw [HZS.out, ← s2])] at hoo
    have HOO := Lib.hid hoo
    have HE := Lib.hid (stF_err t2 he)
    clear he hn W2 hoo s2
    go_wp2_with fail
    go_ret
    rw [HOO.out]
    exact ⟨_, rfl, ⟨none, 0, rfl, Nat.le_refl _, fun h => by simp at h⟩, fun n c e => by cases e; rfl, k2, _, t2, er2, H2.out, HE.out⟩
  obtain rfl : er2 = 0 := by omega
  rw [stF_ok] at s2
  have hoo := HO.out
  obtain ⟨hraw, hzt⟩ := sRaw_len_ok (s := stF t er) (n := z) (t := t2) (by rw [HZS.out, ← s2])
  rw [hraw] at hoo
  have HOO := Lib.hid hoo
  have hzn : z ≤ n := by omega
  have f0 := W2.box.frozen 0
  have hnl : n ≤ 1000000 := by omega
  rcases A with _ | ad
  · obtain rfl := W2.nilc n c rfl
    obtain rfl : n = 0 := by omega
    obtain rfl : z = 0 := by omega
    have ht2 : t2 = [] := List.eq_nil_of_length_eq_zero hn.symm
    have HT2 := Lib.hid ht2
    clear he hn W2 hoo s2 hraw ht2 hzt
    go_wp2_with fail
    go_ret
    rw [HOO.out, HT2.out]
    have hnil : Rd w2 g (.slice none 0 0) (([] : List Nat).map vb) := ⟨none, 0, rfl, Nat.le_refl _, fun h => by simp at h⟩
    exact ⟨_, rfl, hnil.keep (Nat.le_of_lt H2.out.box.lt) (KeepsR.set g w2 0 _) (fun i hi e => by omega), fun n c e => by cases e; rfl, k2.trans (KeepsR.set g _ 0 _), _, [], 0, H2.out.setB hnil (fun x hx => by simp at hx) (by simp) (fun n c e => by cases e; rfl), rfl⟩
  · have hta := W2.read.takes (k := z) (by rw [List.length_map]; exact hzt)
    rw [← List.map_take] at hta
    have HTA := Lib.hid hta
    by_cases hc : c = z
    · have hgo := W2.read.gone (k := z) (by rw [List.length_map]; omega) (some ad)
      rw [← List.map_drop] at hgo
      have HGO := Lib.hid hgo
      clear he hn W2 hoo s2 hraw hzt hta hgo
      obtain rfl := hc
      obtain rfl : n = c := by omega
      go_wp2_with fail
      go_ret
      rw [HOO.out]
      exact ⟨.slice (some ad) n n, rfl, HTA.out.keep (Nat.le_of_lt H2.out.box.lt) (KeepsR.set g w2 0 _) (fun i hi e => by omega), (fun n c e => by cases e), k2.trans (KeepsR.set g _ 0 _), _, _, 0, H2.out.setB (by have := HGO.out; rw [Nat.sub_self] at this; exact this) (bytes_drop H2.out.bytes _) (by rw [List.length_drop]; omega) (fun n c e => by cases e), rfl⟩
    · have hdr := W2.read.drop (k := z) (by rw [List.length_map]; omega)
      rw [← List.map_drop] at hdr
      have HDR := Lib.hid hdr
      clear he hn W2 hoo s2 hraw hzt hta hdr
      go_wp2_with fail
      go_ret
      rw [HOO.out]
      exact ⟨.slice (some ad) z c, rfl, HTA.out.keep (Nat.le_of_lt H2.out.box.lt) (KeepsR.set g w2 0 _) (fun i hi e => by omega), (fun n c e => by cases e), k2.trans (KeepsR.set g _ 0 _), _, _, 0, H2.out.setB HDR.out (bytes_drop H2.out.bytes _) (by rw [List.length_drop]; omega) (fun n c e => by cases e), rfl⟩
end Go.Proofs.YtjiiiimhegkklaaDoor
namespace Go.Proofs.YtjiiiimhegkklaaDoor
open Go.RowKit Pl

def v64 (x : Nat) : Value := .int .u64 x
theorem slU64 : SlT Tryd.prog 168 95 8 (.int .u64 0) := ⟨Tryd.underlying168, by kernel_rfl, rfl, by decide⟩
set_option maxRecDepth 100000 in
theorem rmix_any (s x : Nat) (w : World) (hs : s < 18446744073709551616) (hx : x < 18446744073709551616) :
    Calls Tryd.prog 129 #[.int .u64 (s : Nat), .int .u64 (x : Nat)] w fun e w' => e = .returned (.int .u64 (mixN s x : Nat)) ∧ w = w' := by
  have h1 := u64_xor_nat s x hs hx
  have hf : bits BinOp.xor IntKind.u64 (((s ^^^ x : Nat) : Int) * 11400714819323198485 % 18446744073709551616) (((s ^^^ x : Nat) : Int) * 11400714819323198485 % 18446744073709551616 / 4294967296) = ((mixN s x : Nat) : Int) := by
    unfold mixN
    generalize s ^^^ x = y
    have e1 : (y : Int) * 11400714819323198485 % 18446744073709551616 = ((y * 11400714819323198485 % 18446744073709551616 : Nat) : Int) := by omega
    rw [e1]
    have hm : y * 11400714819323198485 % 18446744073709551616 < 18446744073709551616 := by omega
    generalize y * 11400714819323198485 % 18446744073709551616 = m at *
    have e2 : (m : Int) / 4294967296 = ((m / 4294967296 : Nat) : Int) := by omega
    rw [e2, u64_xor_nat _ _ hm (by omega)]
  have hu : ∀ z : Int, IntKind.u64.wrap z = z % 18446744073709551616 := fun z => rfl
  have hf2 : bits BinOp.xor IntKind.u64 (IntKind.u64.wrap (((s ^^^ x : Nat) : Int) * 11400714819323198485)) (IntKind.u64.wrap ((IntKind.u64.wrap (((s ^^^ x : Nat) : Int) * 11400714819323198485)).tdiv 4294967296)) = ((mixN s x : Nat) : Int) := by
    rw [← hf, hu, hu]
    generalize ((s ^^^ x : Nat) : Int) * 11400714819323198485 = z
    rw [Int.tdiv_eq_ediv_of_nonneg (by omega)]
    congr 1
    omega
  have HF := Lib.hid hf2
  clear hf hf2 hu
  go_enter Tryd.func129, Tryd.ntmps129
  go_wp2_with fail
  go_ret
  exact ⟨by rw [← HF.out]; rfl, rfl⟩

theorem leN_drop (l : List Nat) (t : Nat) (h : t < l.length) : leN (l.drop t) = l.getD t 0 + 256 * leN (l.drop (t + 1)) := by
  rw [List.drop_eq_getElem_cons h, leN, List.getD_eq_getElem?_getD, List.getElem?_eq_getElem h]
  rfl
theorem chunk_getD (bs : List Nat) (i t : Nat) (ht : t < 8) : (chunk bs i).getD t 0 = bs.getD (8 * i + t) 0 := by
  unfold chunk
  rw [List.getD_eq_getElem?_getD, List.getElem?_take, if_pos ht, List.getElem?_drop, List.getD_eq_getElem?_getD]
theorem leN_drop_lt {bs : List Nat} (h : Bytes bs) (i t : Nat) : leN ((chunk bs i).drop t) < 256 ^ ((chunk bs i).length - t) := by
  have := leN_lt ((chunk bs i).drop t) (fun x hx => chunk_bytes h i x (List.mem_of_mem_drop hx))
  rwa [List.length_drop] at this
theorem pow256_le {k : Nat} (h : k ≤ 8) : 256 ^ k ≤ 18446744073709551616 := by
  have h2 : 256 ^ k ≤ 256 ^ 8 := Nat.pow_le_pow_right (by omega) h
  have h3 : (256 : Nat) ^ 8 = 18446744073709551616 := by decide
  omega
set_option maxHeartbeats 3200000 in
set_option maxRecDepth 100000 in
theorem rwords_any (v : Value) (bs : List Nat) (w : World) (h : Rd w w.heap.size v (bs.map vb)) (hbb : Bytes bs) (hl : bs.length ≤ 1000000) :
    Calls Tryd.prog 118 #[v] w fun e w' => ∃ v', e = .returned v' ∧ Mine w' w.heap.size 95 v' ((words bs).map v64) ∧ Grew w w' := by
  obtain ⟨A, n, c, rfl, hn, hc⟩ := h.form
  rw [List.length_map] at hn
  have hnl : n ≤ 1000000 := by omega
  have HN := Lib.hid hn
  have H := Lib.hid h
  clear hn h
  go_enter Tryd.func118, Tryd.ntmps118
  go_wp2_with fail
  go_loopw [3, 4] (fun a i wr => ∃ (j m : Nat) (A1 : Option Addr) (c1 : Nat), j ≤ nwords bs ∧ i = .int .i64 ((8 * j : Nat) : Int) ∧ a = .slice A1 m c1 ∧ Mine wr w.heap.size 95 (.slice A1 m c1) (((words bs).take j).map v64) ∧ Grew w wr) (fun _ i _ => n + 8 - (intOf i).toNat)
  case atStart => exact ⟨0, 0, none, 0, by omega, rfl, rfl, by rw [List.take_zero]; exact Mine.nil _ _ _, Grew.refl _⟩
  case round =>
    obtain ⟨j, m, A1, c1, hj, rfl, rfl, hM, hG⟩ := hrel
    have hsz := hG.size
    have hjn : j ≤ (n + 7) / 8 := by unfold nwords at hj; rw [HN.out]; exact hj
    by_cases hlt : 8 * j < n
    · have t0 : decide (((8 * j : Nat) : Int) < (n : Int)) = true := by simp; omega
      have hjw : j < nwords bs := by unfold nwords; rw [← HN.out]; omega
      have hcl : (chunk bs j).length = min 8 (n - 8 * j) := by rw [chunk_length, HN.out]
      obtain ⟨L, hL⟩ : ∃ L : Nat, L = (chunk bs j).length := ⟨_, rfl⟩
      rw [← hL] at hcl
      have hL8 : L ≤ 8 := by omega
      have hLn : 8 * j + L ≤ n := by omega
      have HL := Lib.hid hL
      have HCL := Lib.hid hcl
      have HT := Lib.hid (words_take bs j hjw)
      have hml : (((words bs).take j).map v64).length < 1099511627776 := by rw [List.length_map, List.length_take]; omega
      have hr := H.out.grew (Nat.le_refl _) hG
      clear hL hcl hjw hj
      go_wp2_with fail
      all_goals (
        have hcl := HCL.out
        go_loopw [5, 6] (fun a k wq => ∃ (t : Nat) (y : Int), t ≤ L ∧ y + 1 = ((8 * j + t : Nat) : Int) ∧ k = .int .i64 y ∧ a = .int .u64 (leN ((chunk bs j).drop t) : Nat) ∧ wq = wr) (fun _ k _ => (intOf k + 1).toNat)
        case atStart => exact ⟨L, _, Nat.le_refl _, by omega, rfl, by rw [HL.out, List.drop_length]; rfl, rfl⟩
        case round =>
          obtain ⟨t, y, ht, hy, rfl, rfl, rfl⟩ := hrel
          clear hcl
          by_cases h0 : 0 < t
          · obtain ⟨t', rfl⟩ : ∃ t', t = t' + 1 := ⟨t - 1, by omega⟩
            obtain ⟨p, hp⟩ : ∃ p : Nat, p = 8 * j + t' := ⟨_, rfl⟩
            obtain rfl : y = (p : Int) := by omega
            have hpl : p < bs.length := by rw [← HN.out]; omega
            have hpn : p < n := by omega
            obtain ⟨ad, rfl, hadb, hcell⟩ := hr.byte_at hpl
            have t1 : decide ((8 * (j : Int)) ≤ (p : Int)) = true := by simp; omega
            have hle := leN_drop (chunk bs j) t' (by rw [← HL.out]; omega)
            rw [chunk_getD bs j t' (by omega), ← hp] at hle
            have hlt2 := leN_drop_lt hbb j t'
            have hpw := pow256_le (k := (chunk bs j).length - t') (by rw [← HL.out]; omega)
            have hbl : bs.getD p 0 < 256 := getD_byte hbb p
            have HLE := Lib.hid hle
            have hs2 : 256 * leN ((chunk bs j).drop (t' + 1)) + bs.getD p 0 < 18446744073709551616 := by omega
            clear hle hlt2 hpw
            generalize leN ((chunk bs j).drop (t' + 1)) = q at *
            generalize bs.getD p 0 = b at *
            have HP := Lib.hid hp
            have HY := Lib.hid hy
            clear hp hy
            go_wp2_with fail
            have hp := HP.out
            go_roundw
            case rel => exact ⟨t', _, by omega, by omega, rfl, by rw [HLE.out]; congr 1; omega, trivial⟩
            case measure => simp [intOf]
          · obtain rfl : t = 0 := by omega
            have t1 : decide ((8 * (j : Int)) ≤ y) = false := by simp; omega
            have hcv := chunk_lt hbb j
            rw [List.drop_zero]
            generalize leN (chunk bs j) = q at *
            go_wp2_with (at_builtin; refine app_one slU64 rfl (.tmp 32) (.tmp 34) rfl rfl (hM.alloc _) wr.heap.size 1 (.int .u64 (q : Nat)) rfl (Nat.le_refl _) (by simp) (by simp) rfl hml (by simp; omega) ?_; intro r cap w1 hM1 hk1 hr1 hbr1 hlr1)
            go_roundw
            case rel => exact ⟨j + 1, _, _, _, by unfold nwords; rw [← HN.out]; omega, by go_num, rfl, by rw [HT.out, List.map_append]; rw [List.length_map, List.length_take] at hM1; exact hM1, (hG.alloc _).app (hM.alloc _) hk1⟩
            case measure => simp [intOf]; omega)
    · have t0 : decide (((8 * j : Nat) : Int) < (n : Int)) = false := by simp; omega
      have hall : (words bs).take j = words bs := by
        rw [List.take_of_length_le]
        rw [words_length]; unfold nwords; rw [← HN.out]; omega
      rw [hall] at hM
      go_wp2_with fail
      go_ret
      exact ⟨_, rfl, hM, hG⟩
end Go.Proofs.YtjiiiimhegkklaaDoor
