/- Blocks compared: slices.Equal at claims, block.Equal, the reference's Same. The reference's hash: mix, Words, Sum, Bytes. The reference's hash: Sum, Bytes. The reference's hash: Bytes. The reference: the bytes of numbers and of byte slices (package wire's model). The reference of chapter 18: Whole. The reference of chapter 18: Param. The reference of chapter 18: Valid. The reference of chapter 18: Core. The reference of chapter 18: Encode. The law BlockEncodes, walked: it returns true and leaves what was there. The law BlockDetects, walked: it returns true and leaves what was there. A block decoded from its encoding; encodings that are equal: plain. -/
import Derived.Test.YtaeahodgeopfbaaDoorBlockRoundP19
import Derived.Test.YtaeahodgeopfbaaDoorBlockRoundP24
import Derived.Test.YtaeahodgeopfbaaDoorBlockRoundP14
import Derived.Test.YtaeahodgeopfbaaDoorBlockRoundP06
import Derived.Test.YtaeahodgeopfbaaDoorBlockRoundP08
import Derived.Lib.ConvBytes
import Derived.Test.YtaeahodgeopfbaaDoorBlockRoundP16
import Derived.Test.YtaeahodgeopfbaaDoorBlockRoundP12
import Derived.Test.YtaeahodgeopfbaaDoorBlockRoundP22
import Derived.Deep.RegionHeld3
import Derived.Test.YtaeahodgeopfbaaDoorBlockRoundP23
namespace Go.Proofs.YtaeahodgeopfbaaDoor
open Go.RowKit Pl

set_option maxHeartbeats 3200000 in
set_option maxRecDepth 100000 in
theorem equalC_any (v u : Value) (xs ys : List Clm) (w : World) (h : RdC w w.heap.size v xs) (k : RdC w w.heap.size u ys) (hl : xs.length ≤ 1099511627776) (hl' : ys.length ≤ 1099511627776) :
    Calls Tryd.prog 26 #[v, u] w fun e w' => e = .returned (.bool (decide (xs = ys))) ∧ ∃ n, w' = w.drewN n := by
  obtain ⟨A, n, c, rfl, hn, hc⟩ := h.form
  obtain ⟨B, n', d, rfl, hn', hd⟩ := k.form
  have hnl : n ≤ 1099511627776 := by omega
  have hnl' : n' ≤ 1099511627776 := by omega
  have HN := Lib.hid hn
  have HN' := Lib.hid hn'
  by_cases hne : n ≠ n'
  · have t0 : ((n : Int) != (n' : Int)) = true := by rw [bne_iff_ne]; omega
    have hD : decide (xs = ys) = false := by
      rw [decide_eq_false_iff_not]
      rintro rfl
      omega
    have HD := Lib.hid hD
    clear hn hn' hne hD
    go_enter Tryd.func26, Tryd.ntmps26
    go_wp2_with fail
    go_ret
    exact ⟨by rw [HD.out]; rfl, 0, rfl⟩
  obtain rfl : n = n' := by omega
  clear hn hn' hne
  have t0 : ((n : Int) != (n : Int)) = false := by simp
  go_enter Tryd.func26, Tryd.ntmps26
  go_wp2_with fail
  go_loopw [13] (fun i wr => ∃ (j m : Nat), j ≤ n ∧ i = .int .i64 j ∧ wr = w.drewN m ∧ xs.take j = ys.take j) (fun i _ => n - (intOf i).toNat)
  case atStart => exact ⟨0, 0, by omega, rfl, rfl, by simp⟩
  case round =>
    obtain ⟨j, m, hj, rfl, rfl, htake⟩ := hrel
    have HTK := Lib.hid htake
    clear htake
    by_cases hlt : j < n
    · have hjx : j < xs.length := by rw [← HN.out]; exact hlt
      have hjy : j < ys.length := by rw [← HN'.out]; exact hlt
      obtain ⟨b1, o1, rfl, hb1, x0, x1, x2, x3⟩ := h.four hjx
      obtain ⟨b2, o2, rfl, hb2, y0, y1, y2, y3⟩ := k.four hjy
      have ex : xs[j]? = some (xs.getD j zc) := by rw [List.getD_eq_getElem?_getD, List.getElem?_eq_getElem hjx]; rfl
      have ey : ys[j]? = some (ys.getD j zc) := by rw [List.getD_eq_getElem?_getD, List.getElem?_eq_getElem hjy]; rfl
      have HX := Lib.hid ex
      have HY := Lib.hid ey
      clear ex ey hjx hjy
      generalize xs.getD j zc = x at *
      generalize ys.getD j zc = y at *
      by_cases hxy : x = y
      · subst hxy
        have HS := Lib.hid (take_eq_step HTK.out (HX.out.trans HY.out.symm))
        have hnq := neq4 x x true (by simp)
        go_wp2_with fail
        go_quiet (fail)
        go_wp2_with fail
        go_roundw
        case rel => exact ⟨j + 1, _, by omega, by go_num, rfl, HS.out⟩
        case measure => simp [intOf]; omega
      · have hD : decide (xs = ys) = false := by
          rw [decide_eq_false_iff_not]
          rintro rfl
          have := HX.out.symm.trans HY.out
          exact hxy (Option.some.inj this)
        have HD := Lib.hid hD
        have hnq := neq4 x y false (by simpa using hxy)
        clear hD hxy
        go_wp2_with fail
        go_quiet (fail)
        go_wp2_with fail
        go_ret
        exact ⟨by rw [HD.out]; rfl, _, World.drewN_drewN _ _ _⟩
    · have hD : decide (xs = ys) = true := by
        rw [decide_eq_true_eq]
        have := HTK.out
        rwa [List.take_of_length_le (by rw [← HN.out]; omega), List.take_of_length_le (by rw [← HN'.out]; omega)] at this
      have HD := Lib.hid hD
      clear hD
      go_wp2_with fail
      go_ret
      exact ⟨by rw [HD.out]; rfl, _, rfl⟩

set_option maxHeartbeats 6400000 in
set_option maxRecDepth 100000 in
theorem bequal_any (x y : Clm) (v u : Value) (xs ys : List Clm) (w : World) (h : RdC w w.heap.size v xs) (k : RdC w w.heap.size u ys) (hl : xs.length ≤ 1099511627776) (hl' : ys.length ≤ 1099511627776) :
    Calls Tryd.prog 8 #[vbl x v, vbl y u] w fun e w' => e = .returned (.bool (decide (x = y ∧ xs = ys))) ∧ Grew w w' := by
  have HG := Lib.hid (((Grew.refl w).alloc (.cells (cells5 x v).toArray 25)).alloc (.cells (cells5 y u).toArray 25))
  have HB := Lib.hid ((Box.new w 25 (cells5 x v).toArray).alloc (.cells (cells5 y u).toArray 25))
  have HN := Lib.hid (Box.new (w.alloc (.cells (cells5 x v).toArray 25)) 25 (cells5 y u).toArray)
  rw [World.size_alloc] at HN
  have hsz := HG.out.size
  have HE := Lib.hid (equalC_any v u xs ys _ ((h.grew (Nat.le_refl _) HG.out).more hsz) ((k.grew (Nat.le_refl _) HG.out).more hsz) hl hl')
  obtain ⟨A, n, c, rfl, hn, hc⟩ := h.form
  obtain ⟨B, n', d, rfl, hn', hd⟩ := k.form
  obtain ⟨D, hD⟩ : ∃ D, D = decide (x = y ∧ xs = ys) := ⟨_, rfl⟩
  rw [← hD]
  have no : ¬ (x = y) → D = false := fun e => by rw [hD, decide_eq_false_iff_not]; exact fun e2 => e e2.1
  have NO := Lib.hid no
  have HD := Lib.hid hD
  clear hD no hn hn' h k hc hd
  unfold vbl
  go_enter Tryd.func8, Tryd.ntmps8
  go_upto_region 1 with fail
  change Code.wp _ _ _ _ ((w.alloc (.cells (cells5 x (.slice A n c)).toArray 25)).alloc (.cells (cells5 y (.slice B n' d)).toArray 25))
  generalize (w.alloc (.cells (cells5 x (.slice A n c)).toArray 25)).alloc (.cells (cells5 y (.slice B n' d)).toArray 25) = w1 at *
  obtain ⟨c0, c1, c2, c3, c4⟩ := HB.out.five
  obtain ⟨d0, d1, d2, d3, d4⟩ := HN.out.five
  by_cases h0 : x.1 = y.1
  rotate_left
  · obtain rfl := NO.out (fun e => h0 (by rw [e]))
    have t0 : (x.1 == y.1) = false := by simp [h0]
    clear NO HD
    go_wp2_with fail
    go_ret
    exact ⟨rfl, HG.out⟩
  have t0 : (x.1 == y.1) = true := by simp [h0]
  have H0 := Lib.hid h0
  clear h0
  by_cases h1 : x.2.1 = y.2.1
  rotate_left
  · obtain rfl := NO.out (fun e => h1 (by rw [e]))
    have t1 : (x.2.1 == y.2.1) = false := by simp [h1]
    clear NO HD
    go_wp2_with fail
    go_ret
    exact ⟨rfl, HG.out⟩
  have t1 : (x.2.1 == y.2.1) = true := by simp [h1]
  have H1 := Lib.hid h1
  clear h1
  by_cases h2 : x.2.2.1 = y.2.2.1
  rotate_left
  · obtain rfl := NO.out (fun e => h2 (by rw [e]))
    have t2 : (x.2.2.1 == y.2.2.1) = false := by simp [h2]
    clear NO HD
    go_wp2_with fail
    go_ret
    exact ⟨rfl, HG.out⟩
  have t2 : (x.2.2.1 == y.2.2.1) = true := by simp [h2]
  have H2 := Lib.hid h2
  clear h2
  by_cases h3 : x.2.2.2 = y.2.2.2
  rotate_left
  · obtain rfl := NO.out (fun e => h3 (by rw [e]))
    have t3 : (x.2.2.2 == y.2.2.2) = false := by simp [h3]
    clear NO HD
    go_wp2_with fail
    go_ret
    exact ⟨rfl, HG.out⟩
  have t3 : (x.2.2.2 == y.2.2.2) = true := by simp [h3]
  have H3 := Lib.hid h3
  clear h3
  have hxy : x = y := by
    obtain ⟨x0, x1, x2, x3⟩ := x
    obtain ⟨y0, y1, y2, y3⟩ := y
    have e0 := H0.out
    have e1 := H1.out
    have e2 := H2.out
    have e3 := H3.out
    simp only at e0 e1 e2 e3
    rw [e0, e1, e2, e3]
  have hDD : D = decide (xs = ys) := by rw [HD.out]; simp [hxy]
  have HDD := Lib.hid hDD
  clear hxy hDD NO HD H0 H1 H2 H3
  go_wp2_with fail
  refine HE.out.mono ?_
  rintro e w2 ⟨rfl, n2, h2⟩
  have g2 : Grew w1 w2 := by rw [h2]; exact (Grew.refl w1).drewN n2
  rw [← HDD.out]
  clear h2 HDD
  go_wp2_with fail
  go_ret
  exact ⟨rfl, HG.out.trans g2⟩

end Go.Proofs.YtaeahodgeopfbaaDoor
namespace Go.Proofs.YtaeahodgeopfbaaDoor
open Go.RowKit Pl

def v64 (x : Nat) : Value := .int .u64 x
theorem leN_drop (l : List Nat) (t : Nat) (h : t < l.length) : leN (l.drop t) = l.getD t 0 + 256 * leN (l.drop (t + 1)) := by
  rw [List.drop_eq_getElem_cons h, leN, List.getD_eq_getElem?_getD, List.getElem?_eq_getElem h]
  rfl
theorem chunk_getD (bs : List Nat) (i t : Nat) (ht : t < 8) : (chunk bs i).getD t 0 = bs.getD (8 * i + t) 0 := by
  unfold chunk
  rw [List.getD_eq_getElem?_getD, List.getElem?_take, if_pos ht, List.getElem?_drop, List.getD_eq_getElem?_getD]
theorem leN_drop_lt {bs : List Nat} (h : Bytes bs) (i t : Nat) : leN ((chunk bs i).drop t) < 256 ^ ((chunk bs i).length - t) := by
  have := leN_lt ((chunk bs i).drop t) (fun x hx => chunk_bytes h i x (List.mem_of_mem_drop hx))
  rwa [List.length_drop] at this
theorem pow256_le {k : Nat} (h : k ≤ 8) : 256 ^ k ≤ 18446744073709551616 := by
  have h2 : 256 ^ k ≤ 256 ^ 8 := Nat.pow_le_pow_right (by omega) h
  have h3 : (256 : Nat) ^ 8 = 18446744073709551616 := by decide
  omega
end Go.Proofs.YtaeahodgeopfbaaDoor
namespace Go.Proofs.YtaeahodgeopfbaaDoor
open Go.RowKit Pl

theorem Rd.w64_at {w : World} {B : Nat} {A : Option Addr} {n c j : Nat} {l : List Nat} (h : Rd w B (.slice A n c) (l.map v64)) (hj : j < l.length) : ∃ ad, A = some ad ∧ ad.block < B ∧ w.cell? (ad.add j) = some (.int .u64 (l.getD j 0 : Nat)) := by
  obtain ⟨ad, u, rfl, h1, h2, h3⟩ := h.at_ (j := j) (by rw [List.length_map]; exact hj)
  rw [List.getElem?_map, List.getElem?_eq_getElem hj] at h2
  refine ⟨ad, rfl, h1, ?_⟩
  rw [h3, ← h2, List.getD_eq_getElem?_getD, List.getElem?_eq_getElem hj]
  rfl
theorem Rd.vw_at {w : World} {B : Nat} {A : Option Addr} {n c j : Nat} {l : List Nat} (h : Rd w B (.slice A n c) (l.map vw)) (hj : j < l.length) : ∃ ad, A = some ad ∧ ad.block < B ∧ w.cell? (ad.add j) = some (.int .i64 (toI (l.getD j 0))) := by
  obtain ⟨ad, u, rfl, h1, h2, h3⟩ := h.at_ (j := j) (by rw [List.length_map]; exact hj)
  rw [List.getElem?_map, List.getElem?_eq_getElem hj] at h2
  refine ⟨ad, rfl, h1, ?_⟩
  rw [h3, ← h2, List.getD_eq_getElem?_getD, List.getElem?_eq_getElem hj]
  rfl
theorem take_getD (l : List Nat) (j : Nat) (hj : j < l.length) : l.take (j + 1) = l.take j ++ [l.getD j 0] := by
  rw [List.take_add_one, List.getElem?_eq_getElem hj, List.getD_eq_getElem?_getD, List.getElem?_eq_getElem hj]; rfl
theorem conv_grew (w : World) (e : TypeId) (s : ByteArray) : Grew w (Lib.bytesWorld w e s) :=
  ⟨rfl, rfl, rfl, by rw [Lib.bytesWorld_size]; omega, fun k hk _ => Lib.bytesWorld_at_old w e s k hk⟩
theorem conv_rd (w : World) (e : TypeId) (s : ByteArray) (lb : List Nat) (hlb : lb = s.data.toList.map UInt8.toNat) : Rd (Lib.bytesWorld w e s) (Lib.bytesWorld w e s).heap.size (.slice (some ⟨w.heap.size, 0, none⟩) s.size (grownCap w s.size 0 e)) (lb.map vb) := by
  have hl : (lb.map vb).length = s.size := by rw [hlb, List.length_map, List.length_map, Array.length_toList]; rfl
  refine ⟨_, _, by rw [hl], by rw [hl]; exact grownCap_ge _ _ _ _, fun _ => ⟨_, rfl, by rw [Lib.bytesWorld_size]; show w.heap.size < _; omega, fun j u hu => ?_⟩⟩
  have e1 : (⟨w.heap.size, 0, none⟩ : Addr).add j = ⟨w.heap.size, j, none⟩ := by unfold Addr.add; split <;> simp_all
  have hj : j < s.size := by
    have := (List.getElem?_eq_some_iff.1 hu).1
    omega
  rw [e1, Lib.bytesWorld_cell w e s j hj]
  rw [hlb, List.map_map, List.getElem?_map] at hu
  have hj2 : j < s.data.toList.length := by rw [Array.length_toList]; exact hj
  rw [List.getElem?_eq_getElem hj2] at hu
  rw [List.getD_eq_getElem?_getD, List.getElem?_eq_getElem hj2]
  exact hu

end Go.Proofs.YtaeahodgeopfbaaDoor
namespace Go.Proofs.YtaeahodgeopfbaaDoor
open Go.RowKit Pl

theorem hashB_said (lb bs : List Nat) : hashB lb bs = hashSum lb (words bs ++ [bs.length]) := by unfold hashB; rfl
end Go.Proofs.YtaeahodgeopfbaaDoor
namespace Go.Proofs.YtaeahodgeopfbaaDoor
open Go.RowKit Pl

end Go.Proofs.YtaeahodgeopfbaaDoor
namespace Go.Proofs.YtaeahodgeopfbaaDoor
open Go.RowKit Pl

end Go.Proofs.YtaeahodgeopfbaaDoor
namespace Go.Proofs.YtaeahodgeopfbaaDoor
open Go.RowKit Pl

def okP (k p : Int) : Prop := 0 ≤ k ∧ k ≤ 4 ∧ pLo k.toNat ≤ p ∧ p ≤ pHi k.toNat
instance (k p : Int) : Decidable (okP k p) := by unfold okP; infer_instance
end Go.Proofs.YtaeahodgeopfbaaDoor
namespace Go.Proofs.YtaeahodgeopfbaaDoor
open Go.RowKit Pl

end Go.Proofs.YtaeahodgeopfbaaDoor
namespace Go.Proofs.YtaeahodgeopfbaaDoor
open Go.RowKit Pl

end Go.Proofs.YtaeahodgeopfbaaDoor
namespace Go.Proofs.YtaeahodgeopfbaaDoor
open Go.RowKit Pl

theorem coreB_len (x : Clm) (cb : List Nat) (hx : I64 x.1 ∧ I64 x.2.1 ∧ I64 x.2.2.1 ∧ I64 x.2.2.2) (hl : cb.length ≤ 200000) : (coreB x cb).length ≤ 300000 := by
  obtain ⟨x1, x2, x3, x4⟩ := hx
  have l1 := vint_len10 (zig_lt x1)
  have l2 := vint_len10 (zig_lt x2)
  have l3 := vint_len10 (zig_lt x3)
  have l4 := vint_len10 (zig_lt x4)
  have l5 := vint_len10 (n := cb.length) (by omega)
  unfold coreB rawB
  simp only [List.length_append]
  omega
end Go.Proofs.YtaeahodgeopfbaaDoor
namespace Go.Proofs.YtaeahodgeopfbaaDoor
open Go.RowKit Pl

theorem bEncB_len (x : Clm) (cs : List Clm) : (bEncB x cs).length ≤ 400000 := by
  unfold bEncB
  split
  · rename_i h
    unfold bEncE at h
    split at h
    · rename_i hok
      have h1 := encB_len cs
      rw [encB_ok h] at h1
      have h2 := coreB_len x (pack (cbits cs)) (okB_i64 hok) h1
      have h3 := vint_len10 (n := (coreB x (pack (cbits cs))).length) (by omega)
      have h4 := vint_len10 (hashB_lt blockL (coreB x (pack (cbits cs))))
      unfold wholeB rawB
      simp only [List.length_append]
      omega
    · cases h
  · simp
theorem ld5o {ops : Array Oper} {rest : List Oper} {o : Oper} {a : Act} {w : World} {Q : Exit → Act → World → Prop} (T : TypeId) (hT : (Tryd.prog.info? T).map (·.size) = some 5) {d : TypeDesc} (hu : Tryd.prog.underlying T = some d) (hd : d.isRow = true) (x : Operand) (g off : Nat) (c : Clm) (v : Value) (hgd : o.guard = none) (ho : o.op = .load T x)
    (hx : a.eval x = .pointer (some ⟨g, off, none⟩)) (hb : w.rangeAt g off (cells5 c v))
    (h : wpList Tryd.prog ops Q rest (a.put o.dst (.agg (cells5 c v).toArray)) w) : wpList Tryd.prog ops Q (o :: rest) a w :=
  wpList_load_mid hgd T x ho g off hx (cells5 c v) _ hb hu hd hT h
theorem ld5v {ops : Array Oper} {rest : List Oper} {o : Oper} {a : Act} {w : World} {Q : Exit → Act → World → Prop} (T : TypeId) (hT : (Tryd.prog.info? T).map (·.size) = some 5) {d : TypeDesc} (hu : Tryd.prog.underlying T = some d) (hd : d.isRow = true) (x : Operand) (g : Nat) (c : Clm) (v : Value) (t : TypeId) (hgd : o.guard = none) (ho : o.op = .load T x)
    (hx : a.eval x = .pointer (some ⟨g, 0, none⟩)) (hb : Box w g t (cells5 c v).toArray)
    (h : wpList Tryd.prog ops Q rest (a.put o.dst (.agg #[.int .i64 c.1, .int .i64 c.2.1, .int .i64 c.2.2.1, .int .i64 c.2.2.2, v])) w) : wpList Tryd.prog ops Q (o :: rest) a w := ld5 T hT hu hd x g c v t hgd ho hx hb h
theorem range_grew {w w' : World} {g off : Nat} {xs : List Value} (h : w.rangeAt g off xs) (k : Grew w w') : w'.rangeAt g off xs := fun j u hu => by
  have h1 := h j u hu
  exact (World.cell?_of_block (k.block g (World.block_lt_of_cell? w _ h1) (fun e => e))).trans h1
/- a slice of claims appended in a region that draws its order -/
theorem step_anyG {w : World} {base : Nat} {v : Value} {cs : List Clm} {ops : Array Oper} {o : Oper} {a : Act} {K : Act → World → Prop} {Q : Exit → Act → World → Prop} {E : Prop} (hgd : o.guard = none) (s x : Operand)
    (ho : o.op = .call { callee := .builtin .append, args := #[s, x], argTypes := #[23, 23] })
    (hs : a.eval s = v) (hown : MineC w base v cs) {B : Nat} {sv : Value} {ds : List Clm} (hx : a.eval x = sv) (hr : RdG w B sv ds)
    (hn : cs.length + ds.length ≤ 1099511627776) (hbase : base ≤ w.heap.size)
    (h : ∀ A m cap w', (cs ++ ds).length = m → MineC w' base (.slice A m cap) (cs ++ ds) → Keeps (fun i => v.ownBlock = some i) w w' →
      ((Value.slice A m cap).ownBlock = v.ownBlock ∨ (Value.slice A m cap).ownBlock = some w.heap.size) → K (a.put o.dst (.slice A m cap)) w') :
    if Region.wanted o (yielded ops a.tmps) = true then Oper.wp Tryd.prog o a w K Q else E := by
  have hw : Region.wanted o (yielded ops a.tmps) = true := by simp [Region.wanted, hgd]
  rw [if_pos hw]
  obtain ⟨v', w', hrun, h2, h3, h4⟩ := run_appG o.type hown hr hn hbase
  unfold Oper.wp execOp
  simp only [ho, resolve, invoke, builtin, Sem.run_bind, Sem.run_pure, Result.andThen_ok, List.map_toArray, List.map_cons, List.map_nil, hs, hx, hrun]
  obtain ⟨A, m, cap, rfl, hm, _⟩ := h2.slice
  exact h A m cap w' hm.symm h2 h3 h4

theorem own_ne {g k n c : Nat} (h : g ≠ k) : ¬ (Value.slice (some ⟨g, 0, none⟩) n c).ownBlock = some k := fun e => h (by simpa [Value.ownBlock] using e)
theorem MineC.empty {w : World} {base g : Nat} (hb : Box w g 60 #[]) (hg : base ≤ g) : MineC w base (.slice (some ⟨g, 0, none⟩) 0 0) [] :=
  ⟨by simp [flat], .inr ⟨g, 0, #[], rfl, hg, hb, Nat.le_refl _, by unfold maxLen; omega, rfl, rfl⟩⟩
theorem RdG.one {w : World} {g : Nat} {d : Clm} {t : TypeId} (hb : Box w g t (cells4 d).toArray) : RdG w w.heap.size (.slice (some ⟨g, 0, none⟩) 1 1) [d] := by
  refine RdC.rdG ⟨_, 1, rfl, Nat.le_refl _, fun _ => ⟨_, _, rfl, hb.lt, fun j u hu => ?_⟩⟩
  rw [Nat.zero_add, hb.cell, ← hu, flat_one]
  simp
/- the claims of a block stored -/
theorem put_claims {w6 w8 : World} {g : Nat} {T : TypeId} {X : Clm} {u : Value} {A : Option Addr} {m cap : Nat} {ds : List Clm} (hb : Box w6 g T (cells5 X u).toArray) (hg8 : Grew w6 w8) (hM : MineC w8 w6.heap.size (.slice A m cap) ds) :
    Box (w8.setCell ⟨g, 4, none⟩ (.slice A m cap)) g T (cells5 X (.slice A m cap)).toArray ∧ MineC (w8.setCell ⟨g, 4, none⟩ (.slice A m cap)) w6.heap.size (.slice A m cap) ds ∧ Keeps (fun i => i = g) w6 (w8.setCell ⟨g, 4, none⟩ (.slice A m cap)) := by
  have hk : Keeps (fun i => i = g) w8 (w8.setCell ⟨g, 4, none⟩ (.slice A m cap)) := (Keeps.refl (fun i => i = g) w8).setCell (p := ⟨g, 4, none⟩) (.inl rfl) _
  refine ⟨?_, hM.keep hk (fun i e e2 => ?_), Keeps.trans hg8.keeps hk⟩
  · have := (hb.grew hg8).set_ 4 (.slice A m cap)
    simpa [cells5] using this
  · have := (hM.lt i e).1
    have := hb.lt
    omega
end Go.Proofs.YtaeahodgeopfbaaDoor
namespace Go.Proofs.YtaeahodgeopfbaaDoor
open Go.RowKit Pl

theorem WR.keepS {w w' : World} {base g : Nat} {v : Value} {bs : List Nat} {a : Nat} {er : Int} {S : Nat → Prop} (h : WR w base g v bs a er) (hk : Keeps S w w') (hg : ¬ S g) (hv : ∀ k, v.ownBlock = some k → ¬ S k) : WR w' base g v bs a er :=
  ⟨h.box.keep hk hg, h.row.keep hk hv, h.bytes, h.small, h.here⟩
theorem core_len9 {x : Clm} (hx : okB x) {cs : List Clm} (hl : cs.length ≤ 9) : (coreB x (pack (cbits cs))).length ≤ 1000 := by
  obtain ⟨x1, x2, x3, x4⟩ := okB_i64 hx
  have h1 := cbits_length cs
  have h2 : (pack (cbits cs)).length ≤ 400 := by rw [pack_length]; omega
  have l1 := vint_len10 (zig_lt x1)
  have l2 := vint_len10 (zig_lt x2)
  have l3 := vint_len10 (zig_lt x3)
  have l4 := vint_len10 (zig_lt x4)
  have l5 := vint_len10 (n := (pack (cbits cs)).length) (by omega)
  unfold coreB rawB
  simp only [List.length_append]
  omega
theorem vint_pos (n : Nat) : 1 ≤ (vint n).length := by
  by_cases hh : n < 128
  · rw [vint_lt hh]; simp
  · rw [vint_ge hh]; simp
theorem whole_len0 (core : List Nat) (hh : Nat) (hl : core.length ≤ 1000) (h : hh < 18446744073709551616) : (rawB core ++ vint hh).length = (vint core.length).length + core.length + (vint hh).length ∧ (vint core.length).length ≤ 10 ∧ (vint hh).length ≤ 10 ∧ 1 ≤ (vint hh).length := by
  refine ⟨?_, vint_len10 (by omega), vint_len10 h, vint_pos hh⟩
  rw [List.length_append, rawB, List.length_append]
theorem whole_len {core : List Nat} (h : core.length ≤ 1000) : (wholeB core).length = (vint core.length).length + core.length + (vint (hashB blockL core)).length ∧ (vint core.length).length ≤ 10 ∧ (vint (hashB blockL core)).length ≤ 10 ∧ 1 ≤ (vint (hashB blockL core)).length := whole_len0 core _ h (hashB_lt blockL core)
theorem made_enc {X : Clm} {cs : List Clm} (hx : okB X) (hc : ∀ c ∈ cs, okC c) (hl : cs.length ≤ 9) : bEncE X cs = 0 ∧ bEncB X cs = wholeB (coreB X (pack (cbits cs))) := by
  have h1 : encE cs = 0 := by unfold encE; rw [if_neg (by omega), if_pos hc]
  have h2 : bEncE X cs = 0 := by unfold bEncE; rw [if_pos hx, h1]
  exact ⟨h2, by unfold bEncB; rw [if_pos h2]⟩
theorem xor_ne {x d : Nat} (hd : 0 < d) : x ^^^ d ≠ x := fun h => by
  have h2 := congrArg (x ^^^ ·) h
  simp only [← Nat.xor_assoc, Nat.xor_self, Nat.zero_xor] at h2
  omega
/- a byte stored into a cell -/
theorem st_u8 {ops : Array Oper} {rest : List Oper} {o : Oper} {a : Act} {w : World} {Q : Exit → Act → World → Prop} (x y : Operand) (g k : Nat) (n : Int) (u : Value) (hgd : o.guard = none) (ho : o.op = .store 5 x y)
    (hx : a.eval x = .pointer (some ⟨g, k, none⟩)) (hy : a.eval y = .int .u8 n) (hc : w.cell? ⟨g, k, none⟩ = some u) (hf : w.frozen? ⟨g, k, none⟩ = false)
    (h : ∀ w', w' = w.setCell ⟨g, k, none⟩ (.int .u8 n) → wpList Tryd.prog ops Q rest (a.put o.dst undef) w') : wpList Tryd.prog ops Q (o :: rest) a w := by
  refine wpList_plain hgd fun K hK => ?_
  unfold Oper.wp execOp
  simp only [ho, hx, hy]
  go_simp
  exact hK _ _ (h _ rfl)
end Go.Proofs.YtaeahodgeopfbaaDoor
namespace Go.Proofs.YtaeahodgeopfbaaDoor
open Go.RowKit Pl

theorem dec_whole {X : Clm} {cs : List Clm} (hx : okB X) (hc : ∀ c ∈ cs, okC c) (hl : cs.length ≤ 9) : decB (wholeB (coreB X (pack (cbits cs)))) = .inr (X, cs) := by
  have hcl := core_len9 hx hl
  have hpl : (pack (cbits cs)).length ≤ 400 := by
    rw [pack_length]
    have := cbits_length cs
    omega
  rw [decB_whole (by omega), inB_core (okB_i64 hx) (by omega)]
  have hd : refDecode (pack (cbits cs)) = some cs := by
    rw [← decode_eq_ref _ (pack_bytes _)]
    exact decode_enc cs hc (by omega)
  rw [hd]
  simp only
  rw [if_pos hx]
theorem same_enc {X Y : Clm} {cs ds : List Clm} (hx : okB X) (hc : ∀ c ∈ cs, okC c) (hl : cs.length ≤ 9) (hy : okB Y) (hd : ∀ c ∈ ds, okC c) (hl' : ds.length ≤ 9) :
    decide (wholeB (coreB X (pack (cbits cs))) = wholeB (coreB Y (pack (cbits ds)))) = decide (X = Y ∧ cs = ds) := by
  have h1 := dec_whole hx hc hl
  have h2 := dec_whole hy hd hl'
  have key : wholeB (coreB X (pack (cbits cs))) = wholeB (coreB Y (pack (cbits ds))) ↔ (X = Y ∧ cs = ds) := by
    constructor
    · intro e
      rw [e, h2] at h1
      injection h1 with h1
      injection h1 with h3 h4
      exact ⟨h3.symm, h4.symm⟩
    · rintro ⟨e1, e2⟩
      rw [e1, e2]
  rw [decide_eq_decide]
  exact key
end Go.Proofs.YtaeahodgeopfbaaDoor
