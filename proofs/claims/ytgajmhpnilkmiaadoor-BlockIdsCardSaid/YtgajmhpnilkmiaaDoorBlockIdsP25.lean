/- block.Decode. The reference's reader of bytes: its state, unsigned numbers. The reference's reader of bytes: signed numbers, lengths, byte slices, the end. The reference's hash: mix, Words, Sum, Bytes. The reference's hash: Sum, Bytes. The reference's hash: Bytes. The reference of chapter 18: Param. The reference of chapter 18: Valid. The reference's Decode of a block, walked. -/
import Derived.Test.YtgajmhpnilkmiaaDoorBlockIdsP20
import Derived.Test.YtgajmhpnilkmiaaDoorBlockIdsP24
import Derived.Test.YtgajmhpnilkmiaaDoorBlockIdsP23
import Derived.Deep.Slices
import Derived.Test.YtgajmhpnilkmiaaDoorBlockIdsP09
import Derived.Test.YtgajmhpnilkmiaaDoorBlockIdsP16
import Derived.Test.YtgajmhpnilkmiaaDoorBlockIdsP06
import Derived.Lib.ConvBytes
import Derived.Test.YtgajmhpnilkmiaaDoorBlockIdsP14
namespace Go.Proofs.YtgajmhpnilkmiaaDoor
open Go.RowKit Pl

theorem results_cell5_2 {fn : Func} {p q : Tmp} {ty : TypeId} (h : fn.results = #[.cell p ty, .tmp q]) {tmps : Array Value} {w : World} {g : Nat} {c : Clm} {v u : Value} {t : TypeId} (hp : tmps.getD p undef = .pointer (some ⟨g, 0, none⟩)) (hq : tmps.getD q undef = u) (hT : (Tryd.prog.info? ty).map (·.size) = some 5) {d : TypeDesc} (hu : Tryd.prog.underlying ty = some d) (hd : d.isRow = true) (hb : Box w g t (cells5 c v).toArray) :
    (results fn tmps).run Tryd.prog w = .ok (.tuple #[vbl c v, u]) w := by
  have hl := run_loadVar_mid (P := Tryd.prog) w g 0 ty (cells5 c v) d hb.range5 hu hd hT
  simp only [results, h]
  rw [Array.getD_eq_getD_getElem?] at hp hq
  simp [Sem.run_bind, hp, hq, Result.andThen, hl, asAddr, vbl_cells]
set_option maxHeartbeats 1600000 in
theorem readR_any (v : Value) (bs : List Nat) (w : World) (h : Rd w w.heap.size v (bs.map vb)) (hb : Bytes bs) (hl : bs.length ≤ 1000000) :
    Calls Tryd.prog 12 #[v] w fun e w' => ∃ g u, e = .returned (.pointer (some ⟨g, 0, none⟩)) ∧ WR w' w.heap.size g u bs 0 0 ∧ w.heap.size ≤ g ∧ Grew w w' := by
  have HC := Lib.hid (clone_any v bs w h (by omega))
  obtain ⟨A, n, c, rfl, hn, hc⟩ := h.form
  clear h hn
  go_enter Tryd.func12, Tryd.ntmps12
  go_wp2_with fail
  refine HC.out.mono ?_
  rintro e w2 ⟨v2, rfl, k1, k2⟩
  obtain ⟨A2, n2, c2, rfl, -⟩ := k1.slice
  have hs := k2.size
  go_wp2_with fail
  go_ret
  exact ⟨_, _, rfl, ⟨Box.new w2 93 _, k1.alloc _, hb, hl, Nat.zero_le _⟩, hs, k2.alloc _⟩
theorem uP_rest {bs : List Nat} {n : Nat} {t : List Nat} (h : uP 0 0 bs = .inr (n, t)) : t.length ≤ bs.length ∧ ∀ x ∈ t, x ∈ bs := by
  obtain ⟨k, _, rfl⟩ := uP_suffix _ _ _ _ _ h
  exact ⟨by rw [List.length_drop]; omega, fun x hx => List.mem_of_mem_drop hx⟩
theorem sRaw_sub (bs : List Nat) : (sRaw (.inr bs)).1.length ≤ bs.length ∧ ∀ x ∈ (sRaw (.inr bs)).1, x ∈ bs := by
  cases h : uP 0 0 bs with
  | inl e => rw [sRaw_err (sU_err h)]; simp
  | inr p =>
    obtain ⟨n, t⟩ := p
    obtain ⟨h1, h2⟩ := uP_rest h
    by_cases hl : t.length < n
    · rw [sRaw_more (sU_ok h) hl]; simp
    · rw [sRaw_ok (sU_ok h) hl]
      exact ⟨by simp only [List.length_take]; omega, fun x hx => h2 x (List.mem_of_mem_take hx)⟩
theorem sRaw_len {bs : List Nat} {r : List Nat × RSt} (h : sRaw (.inr bs) = r) : r.1.length ≤ bs.length := by rw [← h]; exact (sRaw_sub bs).1
theorem sRaw_bytes {bs : List Nat} {r : List Nat × RSt} (h : sRaw (.inr bs) = r) (hb : Bytes bs) : Bytes r.1 := by rw [← h]; exact fun x hx => hb x ((sRaw_sub bs).2 x hx)
theorem sRaw_len' (bs : List Nat) (a : Nat) (er : Int) : (sRaw (stP bs a er)).1.length ≤ bs.length := by
  by_cases h : er = 0
  · rw [h, stP_ok]
    have := (sRaw_sub (bs.drop a)).1
    rw [List.length_drop] at this
    omega
  · rw [stP_err bs a h, sRaw_err (sU_inl er)]; simp
theorem sRaw_bytes' (bs : List Nat) (a : Nat) (er : Int) (hb : Bytes bs) : Bytes (sRaw (stP bs a er)).1 := by
  by_cases h : er = 0
  · rw [h, stP_ok]
    exact fun x hx => hb x (List.mem_of_mem_drop ((sRaw_sub (bs.drop a)).2 x hx))
  · rw [stP_err bs a h, sRaw_err (sU_inl er)]; exact fun x hx => by simp at hx
theorem ld5v' {ops : Array Oper} {rest : List Oper} {o : Oper} {a : Act} {w : World} {Q : Exit → Act → World → Prop} (T : TypeId) (hT : (Tryd.prog.info? T).map (·.size) = some 5) {d : TypeDesc} (hu : Tryd.prog.underlying T = some d) (hd : d.isRow = true) (x : Operand) (g : Nat) (c : Clm) (v : Value) (t : TypeId) (hgd : o.guard = none) (ho : o.op = .load T x)
    (hx : a.eval x = .pointer (some ⟨g, 0, none⟩)) (hb : Box w g t (cells5 c v).toArray)
    (h : wpList Tryd.prog ops Q rest (a.put o.dst (.agg #[.int .i64 c.1, .int .i64 c.2.1, .int .i64 c.2.2.1, .int .i64 c.2.2.2, v])) w) : wpList Tryd.prog ops Q (o :: rest) a w := ld5 T hT hu hd x g c v t hgd ho hx hb h
/- what Decode returns -/
def BDecPost (w : World) (o : Sum Int (Clm × List Clm)) (e : Ending) (w' : World) : Prop :=
  Grew w w' ∧
  match o with
  | .inl er => e = .returned (.tuple #[vbl zc (.slice none 0 0), .int .i64 er])
  | .inr (x, l) => ∃ v, e = .returned (.tuple #[vbl x v, .int .i64 0]) ∧ MineC w' w.heap.size v l
theorem decB_end {bs : List Nat} {r : List Nat × RSt} {u : Nat × RSt} (h1 : sRaw (.inr bs) = r) (h2 : sU r.2 = u) (h : sEnd u.2 ≠ 0) : decB bs = .inl 2 := by
  unfold decB; simp only [h1, h2]; rw [if_pos h]
theorem decB_sum {bs : List Nat} {r : List Nat × RSt} {u : Nat × RSt} (h1 : sRaw (.inr bs) = r) (h2 : sU r.2 = u) (h : sEnd u.2 = 0) (hs : u.1 ≠ hashB blockL r.1) : decB bs = .inl 11 := by
  unfold decB; simp only [h1, h2]; rw [if_neg (by simp [h]), if_pos hs]
theorem decB_in {bs : List Nat} {r : List Nat × RSt} {u : Nat × RSt} (h1 : sRaw (.inr bs) = r) (h2 : sU r.2 = u) (h : sEnd u.2 = 0) (hs : u.1 = hashB blockL r.1) : decB bs = inB r.1 := by
  unfold decB; simp only [h1, h2]; rw [if_neg (by simp [h]), if_neg (by simp [hs])]
section
variable {core : List Nat} {a b c d : Int × RSt} {r : List Nat × RSt} (h1 : sI (.inr core) = a) (h2 : sI a.2 = b) (h3 : sI b.2 = c) (h4 : sI c.2 = d) (h5 : sRaw d.2 = r)
include h1 h2 h3 h4 h5
theorem inB_end (h : sEnd r.2 ≠ 0) : inB core = .inl 2 := by
  unfold inB; simp only [h1, h2, h3, h4, h5]; rw [if_pos h]
theorem inB_none (h : sEnd r.2 = 0) (hd : refDecode r.1 = none) : inB core = .inl 2 := by
  unfold inB; simp only [h1, h2, h3, h4, h5]; rw [if_neg (by simp [h])]; simp only [hd]
theorem inB_bad {l : List Clm} (h : sEnd r.2 = 0) (hd : refDecode r.1 = some l) (hk : ¬ okB (a.1, b.1, c.1, d.1)) : inB core = .inl 1 := by
  unfold inB; simp only [h1, h2, h3, h4, h5]; rw [if_neg (by simp [h])]; simp only [hd]; rw [if_neg hk]
theorem inB_ok {l : List Clm} (h : sEnd r.2 = 0) (hd : refDecode r.1 = some l) (hk : okB (a.1, b.1, c.1, d.1)) : inB core = .inr ((a.1, b.1, c.1, d.1), l) := by
  unfold inB; simp only [h1, h2, h3, h4, h5]; rw [if_neg (by simp [h])]; simp only [hd]; rw [if_pos hk]
end
end Go.Proofs.YtgajmhpnilkmiaaDoor
namespace Go.Proofs.YtgajmhpnilkmiaaDoor
open Go.RowKit Pl

theorem Rd.drop {w : World} {B : Nat} {ad : Addr} {n c : Nat} {xs : List Value} (h : Rd w B (.slice (some ad) n c) xs) {k : Nat} (hk : k ≤ xs.length) : Rd w B (.slice (some (ad.add k)) (n - k) (c - k)) (xs.drop k) := by
  obtain ⟨A, c', hv, hc, hx⟩ := h
  injection hv with e1 e2 e3
  subst e1 e2 e3
  refine ⟨_, c - k, by rw [List.length_drop], by rw [List.length_drop]; omega, fun h0 => ?_⟩
  rw [List.length_drop] at h0
  obtain ⟨ad', e, hb, hcell⟩ := hx (by omega)
  injection e with e
  subst e
  refine ⟨_, rfl, by rw [block_add]; exact hb, fun j u hu => ?_⟩
  rw [Go.Deep.add_add]
  exact hcell (k + j) u (by rw [List.getElem?_drop] at hu; exact hu)
theorem Rd.gone {w : World} {B : Nat} {A : Option Addr} {n c : Nat} {xs : List Value} (h : Rd w B (.slice A n c) xs) {k : Nat} (hk : xs.length ≤ k) (A' : Option Addr) : Rd w B (.slice A' (n - k) (c - k)) (xs.drop k) := by
  obtain ⟨A0, c', hv, hc, _⟩ := h
  injection hv with e1 e2 e3
  subst e3
  rw [List.drop_eq_nil_of_le hk]
  have hz : n - k = 0 := by omega
  rw [hz]
  exact ⟨A', c - k, rfl, by simp, fun h => by simp at h⟩
theorem Rd.takes {w : World} {B : Nat} {A : Option Addr} {n c : Nat} {xs : List Value} (h : Rd w B (.slice A n c) xs) {k : Nat} (hk : k ≤ xs.length) : Rd w B (.slice A k c) (xs.take k) := by
  obtain ⟨A', c', hv, hc, hx⟩ := h
  injection hv with e1 e2 e3
  subst e1 e2 e3
  have hl : (xs.take k).length = k := by rw [List.length_take]; omega
  refine ⟨A, c, by rw [hl], by omega, fun h0 => ?_⟩
  obtain ⟨ad, e, hb, hcell⟩ := hx (by omega)
  refine ⟨ad, e, hb, fun j u hu => hcell j u ?_⟩
  rw [List.getElem?_take] at hu
  split at hu
  · exact hu
  · cases hu
def stF (t : List Nat) (er : Int) : RSt := if er = 0 then .inr t else .inl er
theorem stF_ok (t : List Nat) : stF t 0 = .inr t := rfl
theorem stF_err (t : List Nat) {er : Int} (h : er ≠ 0) : stF t er = .inl er := if_neg h
section
variable {w w' : World} {g : Nat} {v : Value} {t : List Nat} {er : Int} {S : Nat → Prop}
end
theorem bytes_drop {t : List Nat} (h : Bytes t) (k : Nat) : Bytes (t.drop k) := fun x hx => h x (List.mem_of_mem_drop hx)
theorem bytes_take {t : List Nat} (h : Bytes t) (k : Nat) : Bytes (t.take k) := fun x hx => h x (List.mem_of_mem_take hx)
end Go.Proofs.YtgajmhpnilkmiaaDoor
namespace Go.Proofs.YtgajmhpnilkmiaaDoor
open Go.RowKit Pl

def sLen (s : RSt) : Nat × RSt :=
  match sU s with
  | (_, .inl e) => (0, .inl e)
  | (n, .inr t) => if t.length < n then (0, .inl 3) else (n, .inr t)
theorem sLen_err {s : RSt} {n : Nat} {e : Int} (h : sU s = (n, .inl e)) : sLen s = (0, .inl e) := by unfold sLen; simp only [h]
theorem sLen_more {s : RSt} {n : Nat} {t : List Nat} (h : sU s = (n, .inr t)) (hn : t.length < n) : sLen s = (0, .inl 3) := by unfold sLen; simp only [h, if_pos hn]
theorem sLen_ok {s : RSt} {n : Nat} {t : List Nat} (h : sU s = (n, .inr t)) (hn : ¬ t.length < n) : sLen s = (n, .inr t) := by unfold sLen; simp only [h, if_neg hn]
theorem sRaw_len_err {s : RSt} {n : Nat} {e : Int} (h : sLen s = (n, .inl e)) : sRaw s = ([], .inl e) := by
  obtain ⟨z, u, hz⟩ : ∃ z u, sU s = (z, u) := ⟨_, _, rfl⟩
  rcases u with e' | t
  · rw [sLen_err hz] at h
    rw [sRaw_err hz]
    injection h with _ h2
    rw [h2]
  · by_cases hl : t.length < z
    · rw [sLen_more hz hl] at h
      rw [sRaw_more hz hl]
      injection h with _ h2
      rw [h2]
    · rw [sLen_ok hz hl] at h
      injection h with _ h2
      cases h2
theorem sRaw_len_ok {s : RSt} {n : Nat} {t : List Nat} (h : sLen s = (n, .inr t)) : sRaw s = (t.take n, .inr (t.drop n)) ∧ n ≤ t.length := by
  obtain ⟨z, u, hz⟩ : ∃ z u, sU s = (z, u) := ⟨_, _, rfl⟩
  rcases u with e' | t'
  · rw [sLen_err hz] at h
    injection h with _ h2
    cases h2
  · by_cases hl : t'.length < z
    · rw [sLen_more hz hl] at h
      injection h with _ h2
      cases h2
    · rw [sLen_ok hz hl] at h
      injection h with h1 h2
      injection h2 with h2
      subst h1 h2
      exact ⟨sRaw_ok hz hl, by omega⟩
end Go.Proofs.YtgajmhpnilkmiaaDoor
namespace Go.Proofs.YtgajmhpnilkmiaaDoor
open Go.RowKit Pl

def v64 (x : Nat) : Value := .int .u64 x
theorem leN_drop (l : List Nat) (t : Nat) (h : t < l.length) : leN (l.drop t) = l.getD t 0 + 256 * leN (l.drop (t + 1)) := by
  rw [List.drop_eq_getElem_cons h, leN, List.getD_eq_getElem?_getD, List.getElem?_eq_getElem h]
  rfl
theorem chunk_getD (bs : List Nat) (i t : Nat) (ht : t < 8) : (chunk bs i).getD t 0 = bs.getD (8 * i + t) 0 := by
  unfold chunk
  rw [List.getD_eq_getElem?_getD, List.getElem?_take, if_pos ht, List.getElem?_drop, List.getD_eq_getElem?_getD]
theorem leN_drop_lt {bs : List Nat} (h : Bytes bs) (i t : Nat) : leN ((chunk bs i).drop t) < 256 ^ ((chunk bs i).length - t) := by
  have := leN_lt ((chunk bs i).drop t) (fun x hx => chunk_bytes h i x (List.mem_of_mem_drop hx))
  rwa [List.length_drop] at this
theorem pow256_le {k : Nat} (h : k ≤ 8) : 256 ^ k ≤ 18446744073709551616 := by
  have h2 : 256 ^ k ≤ 256 ^ 8 := Nat.pow_le_pow_right (by omega) h
  have h3 : (256 : Nat) ^ 8 = 18446744073709551616 := by decide
  omega
end Go.Proofs.YtgajmhpnilkmiaaDoor
namespace Go.Proofs.YtgajmhpnilkmiaaDoor
open Go.RowKit Pl

theorem Rd.w64_at {w : World} {B : Nat} {A : Option Addr} {n c j : Nat} {l : List Nat} (h : Rd w B (.slice A n c) (l.map v64)) (hj : j < l.length) : ∃ ad, A = some ad ∧ ad.block < B ∧ w.cell? (ad.add j) = some (.int .u64 (l.getD j 0 : Nat)) := by
  obtain ⟨ad, u, rfl, h1, h2, h3⟩ := h.at_ (j := j) (by rw [List.length_map]; exact hj)
  rw [List.getElem?_map, List.getElem?_eq_getElem hj] at h2
  refine ⟨ad, rfl, h1, ?_⟩
  rw [h3, ← h2, List.getD_eq_getElem?_getD, List.getElem?_eq_getElem hj]
  rfl
theorem Rd.vw_at {w : World} {B : Nat} {A : Option Addr} {n c j : Nat} {l : List Nat} (h : Rd w B (.slice A n c) (l.map vw)) (hj : j < l.length) : ∃ ad, A = some ad ∧ ad.block < B ∧ w.cell? (ad.add j) = some (.int .i64 (toI (l.getD j 0))) := by
  obtain ⟨ad, u, rfl, h1, h2, h3⟩ := h.at_ (j := j) (by rw [List.length_map]; exact hj)
  rw [List.getElem?_map, List.getElem?_eq_getElem hj] at h2
  refine ⟨ad, rfl, h1, ?_⟩
  rw [h3, ← h2, List.getD_eq_getElem?_getD, List.getElem?_eq_getElem hj]
  rfl
theorem take_getD (l : List Nat) (j : Nat) (hj : j < l.length) : l.take (j + 1) = l.take j ++ [l.getD j 0] := by
  rw [List.take_add_one, List.getElem?_eq_getElem hj, List.getD_eq_getElem?_getD, List.getElem?_eq_getElem hj]; rfl
theorem conv_grew (w : World) (e : TypeId) (s : ByteArray) : Grew w (Lib.bytesWorld w e s) :=
  ⟨rfl, rfl, rfl, by rw [Lib.bytesWorld_size]; omega, fun k hk _ => Lib.bytesWorld_at_old w e s k hk⟩
theorem conv_rd (w : World) (e : TypeId) (s : ByteArray) (lb : List Nat) (hlb : lb = s.data.toList.map UInt8.toNat) : Rd (Lib.bytesWorld w e s) (Lib.bytesWorld w e s).heap.size (.slice (some ⟨w.heap.size, 0, none⟩) s.size (grownCap w s.size 0 e)) (lb.map vb) := by
  have hl : (lb.map vb).length = s.size := by rw [hlb, List.length_map, List.length_map, Array.length_toList]; rfl
  refine ⟨_, _, by rw [hl], by rw [hl]; exact grownCap_ge _ _ _ _, fun _ => ⟨_, rfl, by rw [Lib.bytesWorld_size]; show w.heap.size < _; omega, fun j u hu => ?_⟩⟩
  have e1 : (⟨w.heap.size, 0, none⟩ : Addr).add j = ⟨w.heap.size, j, none⟩ := by unfold Addr.add; split <;> simp_all
  have hj : j < s.size := by
    have := (List.getElem?_eq_some_iff.1 hu).1
    omega
  rw [e1, Lib.bytesWorld_cell w e s j hj]
  rw [hlb, List.map_map, List.getElem?_map] at hu
  have hj2 : j < s.data.toList.length := by rw [Array.length_toList]; exact hj
  rw [List.getElem?_eq_getElem hj2] at hu
  rw [List.getD_eq_getElem?_getD, List.getElem?_eq_getElem hj2]
  exact hu

end Go.Proofs.YtgajmhpnilkmiaaDoor
namespace Go.Proofs.YtgajmhpnilkmiaaDoor
open Go.RowKit Pl

theorem hashB_said (lb bs : List Nat) : hashB lb bs = hashSum lb (words bs ++ [bs.length]) := by unfold hashB; rfl
end Go.Proofs.YtgajmhpnilkmiaaDoor
namespace Go.Proofs.YtgajmhpnilkmiaaDoor
open Go.RowKit Pl

def okP (k p : Int) : Prop := 0 ≤ k ∧ k ≤ 4 ∧ pLo k.toNat ≤ p ∧ p ≤ pHi k.toNat
instance (k p : Int) : Decidable (okP k p) := by unfold okP; infer_instance
end Go.Proofs.YtgajmhpnilkmiaaDoor
namespace Go.Proofs.YtgajmhpnilkmiaaDoor
open Go.RowKit Pl

end Go.Proofs.YtgajmhpnilkmiaaDoor
namespace Go.Proofs.YtgajmhpnilkmiaaDoor
open Go.RowKit Pl

theorem sRaw_lenF (t : List Nat) (er : Int) : (sRaw (stF t er)).1.length ≤ t.length := by
  by_cases h : er = 0
  · rw [h, stF_ok]; exact (sRaw_sub t).1
  · rw [stF_err t h, sRaw_err (sU_inl er)]; simp
theorem sRaw_bytesF (t : List Nat) (er : Int) (hb : Bytes t) : Bytes (sRaw (stF t er)).1 := by
  by_cases h : er = 0
  · rw [h, stF_ok]; exact fun x hx => hb x ((sRaw_sub t).2 x hx)
  · rw [stF_err t h, sRaw_err (sU_inl er)]; exact fun x hx => by simp at hx
theorem sI_small {t t' : List Nat} {er er' : Int} (h : stF t' er' = (sI (stF t er)).2) (h0 : er' = 0) : t'.length ≤ t.length ∧ (Bytes t → Bytes t') := by
  rw [h0, stF_ok] at h
  by_cases he : er = 0
  · rw [he, stF_ok] at h
    unfold sI at h
    cases hu : uP 0 0 t with
    | inl e => rw [sU_err hu] at h; cases h
    | inr p =>
      obtain ⟨n, s⟩ := p
      rw [sU_ok hu] at h
      injection h with h
      subst h
      obtain ⟨h1, h2⟩ := uP_rest hu
      exact ⟨h1, fun hb x hx => hb x (h2 x hx)⟩
  · rw [stF_err t he] at h
    unfold sI at h
    rw [sU_inl] at h
    cases h
theorem sI_rest (s : RSt) : (∀ e, s ≠ .inl e → True) ∧ (∀ t, (sI s).2 = .inr t → ∃ t0, s = .inr t0 ∧ t.length ≤ t0.length) := by
  refine ⟨fun _ _ => trivial, fun t h => ?_⟩
  rcases s with e | t0
  · unfold sI at h; rw [sU_inl] at h; cases h
  · refine ⟨t0, rfl, ?_⟩
    unfold sI at h
    cases hu : uP 0 0 t0 with
    | inl e => rw [sU_err hu] at h; cases h
    | inr p =>
      obtain ⟨n, s⟩ := p
      rw [sU_ok hu] at h
      injection h with h
      subst h
      exact (uP_rest hu).1
theorem sRaw_inl_len (e : Int) : (sRaw (.inl e)).1.length = 0 := by rw [sRaw_err (sU_inl e)]; rfl
theorem qlen {core : List Nat} {a b c d : Int × RSt} {r : List Nat × RSt} (h1 : sI (.inr core) = a) (h2 : sI a.2 = b) (h3 : sI b.2 = c) (h4 : sI c.2 = d) (h5 : sRaw d.2 = r) : r.1.length ≤ core.length := by
  rcases hd : d.2 with e | t4
  · rw [← h5, hd, sRaw_inl_len]; omega
  · rw [← h5, hd]
    have l5 := (sRaw_sub t4).1
    obtain ⟨t3, e3, l4⟩ := (sI_rest c.2).2 t4 (by rw [h4]; exact hd)
    obtain ⟨t2, e2, l3⟩ := (sI_rest b.2).2 t3 (by rw [h3]; exact e3)
    obtain ⟨t1, e1, l2⟩ := (sI_rest a.2).2 t2 (by rw [h2]; exact e2)
    obtain ⟨t0, e0, l1⟩ := (sI_rest (.inr core)).2 t1 (by rw [h1]; exact e1)
    injection e0 with e0
    subst e0
    omega
end Go.Proofs.YtgajmhpnilkmiaaDoor
