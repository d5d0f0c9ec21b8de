/- wire.Writer: numbers and byte slices appended. wire.Writer: signed numbers, byte slices, the bytes so far. The plain law of the hash: words of bytes, and how they are mixed. hash.mix. -/
import Derived.Test.YtgkmfblmkfclbaaGreatDoorBlockSoundP05
import Derived.Test.YtgkmfblmkfclbaaGreatDoorBlockSoundP04
import Derived.Test.YtgkmfblmkfclbaaGreatDoorProg
namespace Go.Proofs.YtgkmfblmkfclbaaGreatDoor
open Go.RowKit Pl

/- the bytes of a number -/
def vint (n : Nat) : List Nat := if h : n < 128 then [n] else (n % 128 + 128) :: vint (n / 128)
termination_by n
decreasing_by omega
theorem vint_lt {n : Nat} (h : n < 128) : vint n = [n] := by rw [vint, dif_pos h]
theorem vint_ge {n : Nat} (h : ¬ n < 128) : vint n = (n % 128 + 128) :: vint (n / 128) := by rw [vint, dif_neg h]
theorem vint_len (n k : Nat) (h : n < 128 ^ (k + 1)) : (vint n).length ≤ k + 1 := by
  induction k generalizing n with
  | zero => rw [vint_lt (by simpa using h)]; simp
  | succ k ih =>
    by_cases h1 : n < 128
    · rw [vint_lt h1]; simp
    · rw [vint_ge h1, List.length_cons]
      have := ih (n / 128) (by rw [Nat.div_lt_iff_lt_mul (by omega), ← Nat.pow_succ]; exact h)
      omega
theorem vint_len10 {n : Nat} (h : n < 18446744073709551616) : (vint n).length ≤ 10 := vint_len n 9 (Nat.lt_trans h (by decide))
theorem vint_bytes (n : Nat) : Bytes (vint n) := by
  intro x hx
  induction n using Nat.strongRecOn with
  | _ n ih =>
    by_cases h : n < 128
    · rw [vint_lt h] at hx; simp at hx; omega
    · rw [vint_ge h] at hx
      rcases List.mem_cons.1 hx with rfl | hx
      · omega
      · exact ih (n / 128) (by omega) hx
theorem or128 (x : Nat) (h : x < 256) : x ||| 128 = x % 128 + 128 := by
  have key : ∀ x : Fin 256, x.1 ||| 128 = x.1 % 128 + 128 := by decide +kernel
  exact key ⟨x, h⟩

def WW (w : World) (base g : Nat) (v : Value) (bs : List Nat) : Prop := Box w g 62 #[v] ∧ Mine w base 5 v (bs.map vb)
theorem WW.form {w : World} {base g : Nat} {v : Value} {bs : List Nat} (h : WW w base g v bs) : ∃ A n c, v = .slice A n c := by
  obtain ⟨A, c, rfl, _⟩ := h.2.rd
  exact ⟨_, _, _, rfl⟩
theorem WW.step {w w1 : World} {base g : Nat} {v v' : Value} {bs ys : List Nat} (h : WW w base g v bs) (hm : Mine w1 base 5 v' ((bs ++ ys).map vb)) (hk : Keeps (fun i => v.ownBlock = some i) w w1) :
    WW (w1.setCell ⟨g, 0, none⟩ v') base g v' (bs ++ ys) ∧ KeepsW g v w (w1.setCell ⟨g, 0, none⟩ v') := by
  have hg1 : ¬ v.ownBlock = some g := fun e => h.2.ne_box e h.1 (by decide) rfl
  have hbox := h.1.keep hk hg1
  refine ⟨⟨by simpa using hbox.set_ 0 v', hm.far (fun e => hm.ne_box e hbox (by decide) rfl) _⟩, ?_⟩
  exact (Keeps.mono hk (fun i _ e => .inr e)).setCell (.inl (.inl rfl)) _

set_option maxHeartbeats 3200000 in
set_option maxRecDepth 100000 in
theorem wuint_any (g base : Nat) (v : Value) (bs : List Nat) (n : Nat) (w : World) (h : WW w base g v bs) (hn : n < 18446744073709551616) (hl : bs.length < 1000000000) (hb : base ≤ w.heap.size) :
    Calls Tryz.prog 25 #[.pointer (some ⟨g, 0, none⟩), .int .u64 (n : Nat)] w fun e w' => e = .returned (.tuple #[]) ∧
      ∃ v', WW w' base g v' (bs ++ vint n) ∧ KeepsW g v w w' ∧ Moved w v v' := by
  have hvl := vint_len10 hn
  have H := Lib.hid h
  clear h
  go_enter Tryz.func25, Tryz.ntmps25
  go_wp2_with fail
  go_loopw [1] (fun x wr => ∃ (m : Nat) (v' : Value) (pre : List Nat), x = .int .u64 (m : Nat) ∧ m < 18446744073709551616 ∧ WW wr base g v' (bs ++ pre) ∧ pre ++ vint m = vint n ∧ KeepsW g v w wr ∧ Moved w v v') (fun x _ => (intOf x).toNat)
  case atStart => exact ⟨n, v, [], rfl, hn, by simpa using H.out, rfl, Keeps.refl _ _, Moved.refl _ _⟩
  case round =>
    clear H
    obtain ⟨m, v', pre, rfl, hm, hW, hpre, hK, hMv⟩ := hrel
    have hpl : pre.length ≤ 10 := by
      have := congrArg List.length hpre
      rw [List.length_append] at this; omega
    have HPRE := Lib.hid hpre
    obtain ⟨A, q, c, rfl⟩ := hW.form
    have c0 := hW.1.cell 0
    have f0 := hW.1.frozen 0
    have hlt := hW.1.lt
    have hszw := hK.size
    simp only [List.getElem?_toArray, List.getElem?_cons_zero] at c0
    have hbl : ((bs ++ pre).map vb).length < 1099511627776 := by simp; omega
    clear hpre
    by_cases h128 : m < 128
    · have t0 : decide ((128 : Int) ≤ (m : Int)) = false := by simp; omega
      go_wp2_with (at_builtin; refine app_one slU8 rfl (.tmp 24) (.tmp 27) rfl rfl (hW.2.alloc _) wr.heap.size 1 (.int .u8 (m : Nat)) rfl (Nat.le_refl _) (by simp) (by simp) rfl hbl (by simp; omega) ?_; intro r cap w1 hM1 hk1 hr1 hbr1 hlr1; obtain ⟨q2, hq2⟩ : ∃ q2, q2 = ((bs ++ pre).map vb).length + 1 := ⟨_, rfl⟩; rw [← hq2] at hM1 ⊢; clear hq2; have hb1 := (hW.1.alloc _).keep hk1 (fun e => hW.2.ne_box e hW.1 (by decide) rfl); have k0 := hb1.cell 0; have e0 := hb1.frozen 0; simp only [List.getElem?_toArray, List.getElem?_cons_zero] at k0; clear c0 f0)
      go_end0
      have hS := WW.step (w := wr.alloc (.cells #[.int .u8 (m : Nat)] 5)) (ys := [m]) ⟨hW.1.alloc _, hW.2.alloc _⟩ (by rw [List.map_append]; exact hM1) hk1
      have hMm : Moved wr (.slice A q c) (.slice (some ⟨r, 0, none⟩) q2 cap) := (fun k hk => by
          have : r = k := by simpa [Value.ownBlock] using hk
          subst this
          rcases hr1 with e | e
          · exact .inl e.symm
          · simp only [World.size_alloc] at e; exact .inr (by omega))
      rw [vint_lt h128] at HPRE
      exact ⟨rfl, _, by rw [← HPRE.out, ← List.append_assoc]; exact hS.1, KeepsW.trans (w1 := wr.alloc (.cells #[.int .u8 (m : Nat)] 5)) (Keeps.alloc hK _) hMv hS.2, Moved.trans hMv hszw hMm⟩
    · have t0 : decide ((128 : Int) ≤ (m : Int)) = true := by simp; omega
      have hor : bits BinOp.or IntKind.u8 ((m : Int) % 256) 128 = ((m % 128 + 128 : Nat) : Int) := by
        have e1 : ((m : Int) % 256) = ((m % 256 : Nat) : Int) := by omega
        have h1 := u8_or_nat (m % 256) 128 (by omega) (by omega)
        rw [e1]
        rw [show ((128 : Nat) : Int) = 128 from rfl] at h1
        rw [h1, or128 _ (by omega)]
        congr 1; omega
      have HOR := Lib.hid hor
      clear hor
      go_wp2_with (at_builtin; refine app_one slU8 rfl (.tmp 10) (.tmp 14) rfl rfl (hW.2.alloc _) wr.heap.size 1 (.int .u8 (bits BinOp.or IntKind.u8 ((m : Int) % 256) 128)) rfl (Nat.le_refl _) (by simp) (by simp) rfl hbl (by simp; omega) ?_; intro r cap w1 hM1 hk1 hr1 hbr1 hlr1; obtain ⟨q2, hq2⟩ : ∃ q2, q2 = ((bs ++ pre).map vb).length + 1 := ⟨_, rfl⟩; rw [← hq2] at hM1 ⊢; clear hq2; have hb1 := (hW.1.alloc _).keep hk1 (fun e => hW.2.ne_box e hW.1 (by decide) rfl); have k0 := hb1.cell 0; have e0 := hb1.frozen 0; simp only [List.getElem?_toArray, List.getElem?_cons_zero] at k0; clear c0 f0)
      have hS := WW.step (w := wr.alloc (.cells #[.int .u8 (bits BinOp.or IntKind.u8 ((m : Int) % 256) 128)] 5)) (ys := [m % 128 + 128]) ⟨hW.1.alloc _, hW.2.alloc _⟩ (by rw [List.map_append]; rw [HOR.out] at hM1; exact hM1) hk1
      have hMm : Moved wr (.slice A q c) (.slice (some ⟨r, 0, none⟩) q2 cap) := (fun k hk => by
          have : r = k := by simpa [Value.ownBlock] using hk
          subst this
          rcases hr1 with e | e
          · exact .inl e.symm
          · simp only [World.size_alloc] at e; exact .inr (by omega))
      rw [vint_ge h128] at HPRE
      have hsh : (m : Int) / 128 = ((m / 128 : Nat) : Int) := by omega
      go_roundw
      case rel => exact ⟨m / 128, _, pre ++ [m % 128 + 128], by rw [← hsh], by omega, by rw [← List.append_assoc]; exact hS.1, by rw [List.append_assoc]; exact HPRE.out, KeepsW.trans (w1 := wr.alloc (.cells #[.int .u8 (bits BinOp.or IntKind.u8 ((m : Int) % 256) 128)] 5)) (Keeps.alloc hK _) hMv hS.2, Moved.trans hMv hszw hMm⟩
      case measure => simp [intOf]; omega
end Go.Proofs.YtgkmfblmkfclbaaGreatDoor
namespace Go.Proofs.YtgkmfblmkfclbaaGreatDoor
open Go.RowKit Pl

set_option maxHeartbeats 1600000 in
theorem wint_any (g base : Nat) (v : Value) (bs : List Nat) (n : Int) (w : World) (h : WW w base g v bs) (hn : I64 n) (hl : bs.length < 1000000000) (hb : base ≤ w.heap.size) :
    Calls Tryz.prog 35 #[.pointer (some ⟨g, 0, none⟩), .int .i64 n] w fun e w' => e = .returned (.tuple #[]) ∧
      ∃ v', WW w' base g v' (bs ++ vint (zig n)) ∧ KeepsW g v w w' ∧ Moved w v v' := by
  have hzb := zig_bits n hn
  have HU := Lib.hid (wuint_any g base v bs (zig n) w h (zig_lt hn) hl hb)
  obtain ⟨hn1, hn2⟩ := hn
  clear h
  generalize zig n = z at *
  go_enter Tryz.func35, Tryz.ntmps35
  go_wp2_with fail
  refine HU.out.mono ?_
  rintro e w2 ⟨rfl, v2, k1, k2, k3⟩
  go_wp2_with fail
  go_end0
  exact ⟨rfl, v2, k1, k2, k3⟩

def rawB (xs : List Nat) : List Nat := vint xs.length ++ xs
set_option maxHeartbeats 1600000 in
theorem wraw_any (g base : Nat) (v u : Value) (bs xs : List Nat) (w : World) (h : WW w base g v bs) (hx : Rd w w.heap.size u (xs.map vb)) (hux : ∀ k, u.ownBlock = some k → k ≠ g ∧ v.ownBlock ≠ some k) (hl : bs.length < 900000000) (hxl : xs.length ≤ 1000000) (hb : base ≤ w.heap.size) :
    Calls Tryz.prog 24 #[.pointer (some ⟨g, 0, none⟩), u] w fun e w' => e = .returned (.tuple #[]) ∧
      ∃ v', WW w' base g v' (bs ++ rawB xs) ∧ KeepsW g v w w' ∧ Moved w v v' := by
  obtain ⟨A, n, c, rfl, hn, hc⟩ := hx.form
  rw [List.length_map] at hn
  have hvl : (vint n).length ≤ 10 := vint_len10 (by omega)
  have hnl : n ≤ 1000000 := by omega
  have HU := Lib.hid (wuint_any g base v bs n w h (by omega) (by omega) hb)
  have HN := Lib.hid hn
  have hkeepR : ∀ w2 : World, KeepsW g v w w2 → Rd w2 w2.heap.size (.slice A n c) (xs.map vb) := by
    intro w2 hk
    obtain ⟨A', c', hv, hc', hxx⟩ := hx
    refine ⟨A', c', hv, hc', fun h0 => ?_⟩
    obtain ⟨ad, e, hbl, hcell⟩ := hxx h0
    injection hv with hA
    subst hA
    subst e
    have hne := hux ad.block rfl
    refine ⟨ad, rfl, Nat.lt_of_lt_of_le hbl hk.size, fun j y hy => (World.cell?_of_block ?_).trans (hcell j y hy)⟩
    rw [block_add]
    exact hk.block _ hbl (fun e => by
      rcases e with e | e
      · exact hne.1 e
      · exact hne.2 e)
  have HK := Lib.hid hkeepR
  clear hn hx hux hkeepR h
  go_enter Tryz.func24, Tryz.ntmps24
  go_wp2_with fail
  refine HU.out.mono ?_
  rintro e w2 ⟨rfl, v2, k1, k2, k3⟩
  have hr2 := HK.out w2 k2
  obtain ⟨A2, n2, c2, rfl⟩ := k1.form
  have c0 := k1.1.cell 0
  have f0 := k1.1.frozen 0
  have hlt := k1.1.lt
  simp only [List.getElem?_toArray, List.getElem?_cons_zero] at c0
  have hs2 := k2.size
  clear HU HK
  go_wp2_with (at_builtin; refine app_any slU8 rfl (.tmp 13) (.tmp 14) rfl rfl k1.2 rfl hr2 (one_vb _) (by simp only [List.length_map, List.length_append]; rw [← HN.out]; omega) (Nat.le_trans hb hs2) ?_; intro A3 m3 c3 w3 hm3 hM3 hk3 hr3; have hb3 := k1.1.keep hk3 (fun e => k1.2.ne_box e k1.1 (by decide) rfl); have k0 := hb3.cell 0; have e0 := hb3.frozen 0; simp only [List.getElem?_toArray, List.getElem?_cons_zero] at k0; clear c0 f0 hm3)
  go_end0
  have hS := WW.step k1 (ys := xs) (by rw [List.map_append]; exact hM3) hk3
  refine ⟨rfl, _, by unfold rawB; rw [← HN.out, ← List.append_assoc]; exact hS.1, KeepsW.trans k2 k3 hS.2, Moved.trans k3 hs2 (fun k hk => ?_)⟩
  rcases hr3 with e | e
  · exact .inl (Eq.trans (Eq.symm (show (Value.slice A3 m3 c3).ownBlock = (Value.slice A2 n2 c2).ownBlock from e)) hk)
  · have e2 := Eq.trans (Eq.symm (show (Value.slice A3 m3 c3).ownBlock = some w2.heap.size from e)) hk
    injection e2 with e2
    exact .inr (by omega)

set_option maxHeartbeats 800000 in
theorem wwdone_any (g base : Nat) (v : Value) (bs : List Nat) (w : World) (h : WW w base g v bs) (hs : bs.length < 1099511627776) :
    Calls Tryz.prog 28 #[.pointer (some ⟨g, 0, none⟩)] w fun e w' => ∃ v', e = .returned v' ∧ Mine w' w.heap.size 5 v' (bs.map vb) ∧ Grew w w' := by
  have c0 := h.1.cell 0
  have hr := h.2.rd
  obtain ⟨A, n, cap, rfl⟩ : ∃ A n cap, v = .slice A n cap := h.form
  simp only [List.getElem?_toArray, List.getElem?_cons_zero] at c0
  have HC := Lib.hid (clone_any _ _ w hr (by omega))
  clear hr h
  go_enter Tryz.func28, Tryz.ntmps28
  go_wp2_with (go_at_call 53; refine HC.out.mono ?_; rintro e w2 ⟨v2, rfl, k1, k2⟩)
  go_ret
  exact ⟨_, rfl, k1, k2⟩
end Go.Proofs.YtgkmfblmkfclbaaGreatDoor
namespace Go.Proofs.YtgkmfblmkfclbaaGreatDoor.Pl
open Go.RowKit

def mixN (s w : Nat) : Nat := ((s ^^^ w) * 11400714819323198485 % 18446744073709551616) ^^^ ((s ^^^ w) * 11400714819323198485 % 18446744073709551616 / 4294967296)
theorem mixN_lt (s w : Nat) : mixN s w < 18446744073709551616 := by
  unfold mixN
  generalize (s ^^^ w) * 11400714819323198485 = m
  have h1 : m % 18446744073709551616 < 2 ^ 64 := by omega
  have h2 : m % 18446744073709551616 / 4294967296 < 2 ^ 64 := by omega
  have := Nat.xor_lt_two_pow h1 h2
  omega
/- bytes, the least significant first -/
def leN : List Nat → Nat
  | [] => 0
  | x :: l => x + 256 * leN l
theorem leN_lt (l : List Nat) (h : Bytes l) : leN l < 256 ^ l.length := by
  induction l with
  | nil => simp [leN]
  | cons x l ih =>
    have h1 := h x (by simp)
    have h2 := ih (fun y hy => h y (by simp [hy]))
    rw [leN, List.length_cons, Nat.pow_succ]
    omega
theorem leN_snoc (l : List Nat) (x : Nat) : leN (l ++ [x]) = leN l + x * 256 ^ l.length := by
  induction l with
  | nil => simp [leN]
  | cons y l ih =>
    rw [List.cons_append, leN, leN, ih, List.length_cons, Nat.pow_succ, Nat.mul_add, ← Nat.add_assoc]
    congr 1
    rw [← Nat.mul_assoc, Nat.mul_comm 256 x, Nat.mul_assoc, Nat.mul_comm 256]
def chunk (bs : List Nat) (i : Nat) : List Nat := (bs.drop (8 * i)).take 8
theorem chunk_le (bs : List Nat) (i : Nat) : (chunk bs i).length ≤ 8 := List.length_take_le _ _
theorem chunk_length (bs : List Nat) (i : Nat) : (chunk bs i).length = min 8 (bs.length - 8 * i) := by unfold chunk; rw [List.length_take, List.length_drop]
theorem chunk_bytes {bs : List Nat} (h : Bytes bs) (i : Nat) : Bytes (chunk bs i) := fun x hx => h x (List.mem_of_mem_drop (List.mem_of_mem_take hx))
theorem chunk_lt {bs : List Nat} (h : Bytes bs) (i : Nat) : leN (chunk bs i) < 18446744073709551616 := by
  have h1 := leN_lt _ (chunk_bytes h i)
  have h2 : 256 ^ (chunk bs i).length ≤ 256 ^ 8 := Nat.pow_le_pow_right (by omega) (chunk_le bs i)
  have h3 : (256 : Nat) ^ 8 = 18446744073709551616 := by decide
  omega
def nwords (bs : List Nat) : Nat := (bs.length + 7) / 8
def words (bs : List Nat) : List Nat := (List.range (nwords bs)).map fun i => leN (chunk bs i)
theorem words_length (bs : List Nat) : (words bs).length = nwords bs := by simp [words]
theorem words_lt {bs : List Nat} (h : Bytes bs) : ∀ x ∈ words bs, x < 18446744073709551616 := fun x hx => by
  unfold words at hx
  obtain ⟨i, _, rfl⟩ := List.mem_map.1 hx
  exact chunk_lt h i
theorem words_take (bs : List Nat) (j : Nat) (hj : j < nwords bs) : (words bs).take (j + 1) = (words bs).take j ++ [leN (chunk bs j)] := by
  rw [List.take_succ_eq_append_getElem (by rw [words_length]; exact hj)]
  simp [words]
theorem chunk_take (bs : List Nat) (i t : Nat) (ht : t < 8) (h : 8 * i + t < bs.length) : (chunk bs i).take (t + 1) = (chunk bs i).take t ++ [bs.getD (8 * i + t) 0] := by
  have e : (chunk bs i)[t]? = some (bs.getD (8 * i + t) 0) := by
    unfold chunk
    rw [List.getElem?_take, if_pos ht, List.getElem?_drop, List.getD_eq_getElem?_getD, List.getElem?_eq_getElem h]
    rfl
  rw [List.take_add_one, e]
  rfl
theorem or_shift (a x k : Nat) (h : a < 2 ^ k) : a ||| (x * 2 ^ k) = a + x * 2 ^ k := by
  have := Nat.shiftLeft_add_eq_or_of_lt h x
  rw [Nat.shiftLeft_eq] at this
  rw [Nat.or_comm, ← this, Nat.add_comm]
/- the hash of a label and words; of a label and bytes -/
def mixAll (s : Nat) (l : List Nat) : Nat := l.foldl mixN s
theorem mixAll_nil (s : Nat) : mixAll s [] = s := by unfold mixAll; rw [List.foldl_nil]
theorem mixAll_snoc (s : Nat) (l : List Nat) (x : Nat) : mixAll s (l ++ [x]) = mixN (mixAll s l) x := by
  unfold mixAll
  rw [List.foldl_append, List.foldl_cons, List.foldl_nil]
def hashSum (label ws : List Nat) : Nat := mixN (mixAll (mixN (mixN (mixAll 0 (words label)) label.length) ws.length) ws) 0
def hashB (label bs : List Nat) : Nat := hashSum label (words bs ++ [bs.length])
theorem hashB_lt (label bs : List Nat) : hashB label bs < 18446744073709551616 := mixN_lt _ _
end Go.Proofs.YtgkmfblmkfclbaaGreatDoor.Pl
namespace Go.Proofs.YtgkmfblmkfclbaaGreatDoor
open Go.RowKit Pl

set_option maxRecDepth 100000 in
theorem mix_any (s x : Nat) (w : World) (hs : s < 18446744073709551616) (hx : x < 18446744073709551616) :
    Calls Tryz.prog 73 #[.int .u64 (s : Nat), .int .u64 (x : Nat)] w fun e w' => e = .returned (.int .u64 (mixN s x : Nat)) ∧ w = w' := by
  have h1 := u64_xor_nat s x hs hx
  have hf : bits BinOp.xor IntKind.u64 (((s ^^^ x : Nat) : Int) * 11400714819323198485 % 18446744073709551616) (((s ^^^ x : Nat) : Int) * 11400714819323198485 % 18446744073709551616 / 4294967296) = ((mixN s x : Nat) : Int) := by
    unfold mixN
    generalize s ^^^ x = y
    have e1 : (y : Int) * 11400714819323198485 % 18446744073709551616 = ((y * 11400714819323198485 % 18446744073709551616 : Nat) : Int) := by omega
    rw [e1]
    have hm : y * 11400714819323198485 % 18446744073709551616 < 18446744073709551616 := by omega
    generalize y * 11400714819323198485 % 18446744073709551616 = m at *
    have e2 : (m : Int) / 4294967296 = ((m / 4294967296 : Nat) : Int) := by omega
    rw [e2, u64_xor_nat _ _ hm (by omega)]
  have HF := Lib.hid hf
  clear hf
  go_enter Tryz.func73, Tryz.ntmps73
  go_wp2_with fail
  go_ret
  exact ⟨by rw [← HF.out]; rfl, rfl⟩
end Go.Proofs.YtgkmfblmkfclbaaGreatDoor
