/- wire: strings written and read. codec.Undict: the words at the indices, or an error where an index is out of range. The reference's Dict: the same words and indices. The law CodecDict, walked: it returns true and leaves what was there. A block (five cells) in a box of its own: read and written whole; a result that lies in a cell. Chapter 18: of, plain. -/
import Derived.Test.YtgajmhpnilkmiaaDoorCodecKeysP06
import Derived.Test.YtgajmhpnilkmiaaDoorCodecKeysP19
import Derived.Lib.AppendStr
import Derived.Laws.IdiomStrings
import Derived.Laws.BytesArg
import Derived.Test.YtgajmhpnilkmiaaDoorCodecKeysP11
import Derived.StillTailTactics
import Derived.Test.YtgajmhpnilkmiaaDoorCodecKeysP14
import Derived.Test.YtgajmhpnilkmiaaDoorCodecKeysP12
namespace Go.Proofs.YtgajmhpnilkmiaaDoor
open Go.RowKit Pl

def bl (s : ByteArray) : List Nat := s.data.toList.map UInt8.toNat
theorem bl_length (s : ByteArray) : (bl s).length = s.size := by unfold bl; rw [List.length_map, Array.length_toList]; rfl
theorem bl_bytes (s : ByteArray) : Bytes (bl s) := fun x hx => by
  unfold bl at hx
  obtain ⟨b, _, rfl⟩ := List.mem_map.1 hx
  exact b.toNat_lt
theorem bl_cells (s : ByteArray) : Lib.strCells s = (bl s).map vb := by unfold Lib.strCells bl; rw [List.map_map]; rfl
theorem bl_inj {s t : ByteArray} (h : bl s = bl t) : s = t := by
  unfold bl at h
  have h2 : s.data.toList = t.data.toList := (List.map_inj_right (fun a b e => UInt8.toNat_inj.1 e)).1 h
  obtain ⟨s⟩ := s
  obtain ⟨t⟩ := t
  simp only at h2
  rw [Array.toList_inj.1 h2]
theorem sRaw_ok' (c t : List Nat) (hc : c.length < 18446744073709551616) : sRaw (.inr (rawB c ++ t)) = (c, .inr t) := by
  unfold rawB
  rw [List.append_assoc, sRaw_ok (sU_ok (uP_vint0 hc _)) (by rw [List.length_append]; omega), List.take_left' rfl, List.drop_left' rfl]
/- a string appended to a row of bytes -/
theorem app_str {w : World} {base : Nat} {v : Value} {bs : List Nat} {ops : Array Oper} {rest : List Oper} {o : Oper} {a : Act} {Q : Exit → Act → World → Prop} (hgd : o.guard = none) (s x : Operand)
    (ho : o.op = .call { callee := .builtin .append, args := #[s, x], argTypes := #[33, 9] })
    (hs : a.eval s = v) (hown : Mine w base 5 v (bs.map vb)) (t : ByteArray) (hx : a.eval x = .string t)
    (hn : bs.length + t.size ≤ 1099511627776) (hbase : base ≤ w.heap.size)
    (h : ∀ A m cap w', Mine w' base 5 (.slice A m cap) ((bs ++ bl t).map vb) → Keeps (fun i => v.ownBlock = some i) w w' → wpList Tryd.prog ops Q rest (a.put o.dst (.slice A m cap)) w') : wpList Tryd.prog ops Q (o :: rest) a w := by
  refine wpList_plain hgd fun K hK => ?_
  obtain ⟨i, hi, hz, hsz, hby⟩ := info_parts slU8.info
  obtain ⟨v', w', hrun, h2, h3, _⟩ := Lib.run_append_own_string (P := Tryd.prog) w base 33 9 o.type 5 i Tryd.underlying33 Tryd.underlying9 hi hz hsz hby v _ _ hown t (by rw [List.length_map]; unfold maxLen; omega) (by rw [List.length_map]; omega) hbase
  have hm : Mine w' base 5 v' ((bs ++ bl t).map vb) := by
    unfold Mine
    rw [List.map_append, List.length_append, ← bl_cells, Lib.strCells_length]
    exact h2
  unfold Oper.wp execOp
  simp only [ho, resolve, invoke, builtin, Sem.run_bind, Sem.run_pure, Result.andThen_ok, List.map_toArray, List.map_cons, List.map_nil, hs, hx, hrun]
  obtain ⟨A, m, cap, rfl, -⟩ := hm.slice
  exact hK _ _ (h A m cap w' hm ((Keeps.refl _ w).grown h3 (fun k e _ => e)))
set_option maxHeartbeats 1600000 in
set_option maxRecDepth 100000 in
theorem wtext_any (g base : Nat) (v : Value) (bs : List Nat) (s : ByteArray) (w : World) (h : WW w base g v bs) (hg : base ≤ g) (hl : bs.length < 900000000) (hs : s.size ≤ 1000000) (hb : base ≤ w.heap.size) :
    Calls Tryd.prog 9 #[.pointer (some ⟨g, 0, none⟩), .string s] w fun e w' => e = .returned (.tuple #[]) ∧
      ∃ v', WW w' base g v' (bs ++ rawB (bl s)) ∧ Keeps (fun i => base ≤ i) w w' := by
  have hvl : (vint s.size).length ≤ 10 := vint_len10 (by omega)
  have HU := Lib.hid (wuint_any g base v bs s.size w h (by omega) (by omega) hb)
  have hbase : ∀ i, v.ownBlock = some i → base ≤ i := fun i e => (h.2.lt i e).1
  have HBa := Lib.hid hbase
  have hw1 : IntKind.u64.wrap (s.size : Int) = (s.size : Int) := by rw [IntKind.wrap_u64]; omega
  clear h hbase
  go_enter Tryd.func9, Tryd.ntmps9
  go_wp2_with fail
  refine HU.out.mono ?_
  rintro e w2 ⟨rfl, v2, k1, k2, k3⟩
  obtain ⟨A2, n2, c2, rfl⟩ := k1.form
  have c0 := k1.1.cell 0
  have f0 := k1.1.frozen 0
  simp only [List.getElem?_toArray, List.getElem?_cons_zero] at c0
  have hs2 := k2.size
  have hb2 : ∀ i, (Value.slice A2 n2 c2).ownBlock = some i → base ≤ i := fun i e => (k1.2.lt i e).1
  clear HU
  go_wp2_with (at_builtin; refine app_str rfl (.tmp 13) (.tmp 14) rfl rfl k1.2 s rfl (by simp only [List.length_append]; omega) (Nat.le_trans hb hs2) ?_; intro A3 m3 c3 w3 hM3 hk3; have hb3 := k1.1.keep hk3 (fun e => k1.2.ne_box e k1.1 (by decide) rfl); have k0 := hb3.cell 0; have e0 := hb3.frozen 0; simp only [List.getElem?_toArray, List.getElem?_cons_zero] at k0; clear c0 f0)
  go_end0
  have hS := WW.step k1 (ys := bl s) hM3 hk3
  refine ⟨rfl, _, by unfold rawB; rw [bl_length, ← List.append_assoc]; exact hS.1, ?_⟩
  refine Keeps.then_ (Keeps.mono k2 (fun i _ e => ?_)) (Keeps.mono hS.2 (fun i _ e => ?_)) (fun i _ e => e)
  · rcases e with e | e
    · rw [e]; exact hg
    · exact HBa.out i e
  · rcases e with e | e
    · rw [e]; exact hg
    · exact hb2 i e
/- the string of bytes that were read -/
set_option maxRecDepth 100000 in
theorem conv_str (s : ByteArray) {w : World} {B : Nat} {A : Option Addr} {n c : Nat} (h : Rd w B (.slice A n c) ((bl s).map vb)) : (convert 33 9 (.slice A n c)).run Tryd.prog w = .ok (.string s) w := by
  obtain ⟨A', c', hv, hc, hx⟩ := h
  injection hv with e1 e2 e3
  subst e1 e2 e3
  rw [List.length_map] at *
  rcases A with _ | ad
  · have hz : bl s = [] := by
      rcases hb : bl s with _ | ⟨y, ys⟩
      · rfl
      · obtain ⟨ad, h, _⟩ := hx (by rw [hb]; simp)
        cases h
    have hs0 : s = ⟨#[]⟩ := bl_inj (by rw [hz]; rfl)
    rw [hs0]
    exact run_convert_bytes_nil (P := Tryd.prog) (w := w) 33 5 Tryd.underlying33 Tryd.underlying5 _ _ 9 Tryd.underlying9
  · have hl : (bl s).length = s.data.toList.length := by rw [bl_length, Array.length_toList]; rfl
    have := run_convert_bytes_back (P := Tryd.prog) w 33 9 5 ad c s.data.toList Tryd.underlying33 Tryd.underlying5 Tryd.underlying9 (fun j hj => by
      obtain ⟨ad', e, _, hcell⟩ := hx (by omega)
      injection e with e
      subst e
      refine hcell j _ ?_
      unfold bl
      rw [List.getElem?_map, List.getElem?_map, List.getElem?_eq_getElem hj]
      rfl)
    rw [hl]
    exact this
set_option maxHeartbeats 1600000 in
theorem textR_any (g base : Nat) (v : Value) (bs : List Nat) (a : Nat) (s : ByteArray) (rest : List Nat) (w : World) (h : WR w base g v bs a 0) (hd : bs.drop a = rawB (bl s) ++ rest) (hs : s.size ≤ 1000000) :
    Calls Tryd.prog 14 #[.pointer (some ⟨g, 0, none⟩)] w fun e w' => e = .returned (.string s) ∧ KeepsR g w w' ∧ ∃ a', WR w' base g v bs a' 0 ∧ bs.drop a' = rest := by
  have hr : sRaw (stP bs a 0) = (bl s, .inr rest) := by
    rw [stP_ok, hd]
    exact sRaw_ok' (bl s) rest (by rw [bl_length]; omega)
  have HR := Lib.hid (rawR_any g base v bs a 0 w h)
  rw [hr] at HR
  clear h hd hr
  go_enter Tryd.func14, Tryd.ntmps14
  go_wp2_with fail
  refine HR.out.mono ?_
  rintro e w2 ⟨u, rfl, m2, k2, a2, e2, W2, s2⟩
  obtain ⟨A, n, c, rfl, -⟩ := m2.slice
  have hcv := conv_str s m2.rd
  have he2 : e2 = 0 ∧ bs.drop a2 = rest := by
    by_cases h0 : e2 = 0
    · rw [h0, stP_ok] at s2
      injection s2 with s2
      exact ⟨h0, s2⟩
    · rw [stP_err bs a2 h0] at s2
      cases s2
  obtain ⟨rfl, hre⟩ := he2
  have HRE := Lib.hid hre
  clear hre s2
  go_wp2_with fail
  go_ret
  exact ⟨rfl, k2, a2, W2, HRE.out⟩
end Go.Proofs.YtgajmhpnilkmiaaDoor
namespace Go.Proofs.YtgajmhpnilkmiaaDoor
open Go.RowKit Pl

def inW (n : Nat) (l : List Int) : Prop := ∀ i ∈ l, 0 ≤ i ∧ i < n
def undict (ws : List Str) (l : List Int) : List Str := l.map fun i => ws.getD i.toNat []
def UndPost (ws : List Str) (l : List Int) (w : World) (e : Ending) (w' : World) : Prop :=
  Grew w w' ∧ ((inW ws.length l ∧ ∃ v, e = .returned (.tuple #[v, .int .i64 0]) ∧ Mine w' w.heap.size 9 v ((undict ws l).map vs)) ∨ (¬ inW ws.length l ∧ e = .returned (.tuple #[.slice none 0 0, .int .i64 1])))

set_option maxHeartbeats 3200000 in
set_option maxRecDepth 100000 in
theorem undict_any (v u : Value) (ws : List Str) (l : List Int) (w : World) (h : Rd w w.heap.size v (ws.map vs)) (k : Rd w w.heap.size u (l.map vi)) (hi : ∀ x ∈ l, I64 x) (hw : ws.length ≤ 1000000000) (hl : l.length ≤ 1000000000) :
    Calls Tryd.prog 17 #[v, u] w (UndPost ws l w) := by
  obtain ⟨A, n, c, rfl, hn, hc⟩ := h.form
  obtain ⟨B, m, d, rfl, hm, hd⟩ := k.form
  rw [List.length_map] at hn hm
  have hnl : n ≤ 1000000000 := by omega
  have hml : m ≤ 1000000000 := by omega
  have HN := Lib.hid hn
  have HM := Lib.hid hm
  have HI := Lib.hid hi
  have H := Lib.hid h
  have K := Lib.hid k
  clear hn hm hi h k
  go_enter Tryd.func17, Tryd.ntmps17
  go_wp2_with fail
  go_loopw [6, 11] (fun a i wr => ∃ (j m1 : Nat) (A1 : Option Addr) (c1 : Nat), j ≤ m ∧ i = .int .i64 j ∧ a = .slice A1 m1 c1 ∧
      Mine wr w.heap.size 9 (.slice A1 m1 c1) ((undict ws (l.take j)).map vs) ∧ inW n (l.take j) ∧ Grew w wr) (fun _ i _ => m - (intOf i).toNat)
  case atStart => exact ⟨0, 0, none, 0, by omega, rfl, rfl, by simpa [undict] using Mine.nil _ w.heap.size 9, by simp [inW], Grew.refl w⟩
  case round =>
    obtain ⟨j, m1, A1, c1, hj, rfl, rfl, hM, hin, hG⟩ := hrel
    have hsz := hG.size
    have HIN := Lib.hid hin
    clear hin
    by_cases hlt : j < m
    · have hjl : j < l.length := by rw [← HM.out]; exact hlt
      obtain ⟨ad, rfl, hadb, hcell⟩ := (K.out.grew (Nat.le_refl _) hG).int_at hjl
      have htk : l.take (j + 1) = l.take j ++ [l.getD j 0] := by
        rw [List.take_add_one, List.getElem?_eq_getElem hjl, List.getD_eq_getElem?_getD, List.getElem?_eq_getElem hjl]; rfl
      have hmem : l.getD j 0 ∈ l := by
        rw [List.getD_eq_getElem?_getD, List.getElem?_eq_getElem hjl]; exact List.getElem_mem hjl
      have hx := HI.out _ hmem
      have hul : ((undict ws (l.take j)).map vs).length < 1099511627776 := by
        unfold undict; rw [List.length_map, List.length_map, List.length_take]; omega
      have HTK := Lib.hid htk
      have HMEM := Lib.hid hmem
      clear htk hmem hjl
      unfold I64 at hx
      by_cases hb : 0 ≤ l.getD j 0 ∧ l.getD j 0 < n
      · obtain ⟨q, hq⟩ : ∃ q : Nat, l.getD j 0 = (q : Int) := ⟨(l.getD j 0).toNat, by omega⟩
        rw [hq] at hcell hb hx
        have hqn : q < n := by omega
        have hqw : q < ws.length := by rw [← HN.out]; exact hqn
        obtain ⟨ad2, rfl, hadb2, hcell2⟩ := (H.out.grew (Nat.le_refl _) hG).str_at hqw
        have hnext : undict ws (l.take (j + 1)) = undict ws (l.take j) ++ [ws.getD q []] := by
          rw [HTK.out, hq]; unfold undict; rw [List.map_append]; simp
        have hin2 : inW n (l.take (j + 1)) := by
          rw [HTK.out, hq]
          intro i hi
          rcases List.mem_append.1 hi with h1 | h1
          · exact HIN.out i h1
          · obtain rfl := List.mem_singleton.1 h1
            omega
        have HNX := Lib.hid hnext
        have HI2 := Lib.hid hin2
        clear hnext hin2 hq hb hx hqw
        generalize ws.getD q [] = s at *
        go_wp2_with (at_builtin; refine app_one slStr rfl (.tmp 23) (.tmp 28) rfl rfl (hM.alloc _) wr.heap.size 1 (.string ⟨s.toArray⟩) rfl (Nat.le_refl _) (by simp) (by simp) rfl hul (by simp; omega) ?k)
        case k =>
        intro r cap w5 hM5 hk5 hr5 hbr5 hlr5
        have hG5 : Grew w w5 := (hG.alloc _).app (hM.alloc _) hk5
        have HM5 := Lib.hid hM5
        clear hM5 hk5 hM
        go_wp2_with fail
        go_roundw
        case rel =>
          refine ⟨j + 1, _, _, _, by omega, by go_num, rfl, ?_, HI2.out, hG5⟩
          rw [HNX.out, List.map_append]; exact HM5.out
        case measure => simp [intOf]; omega
      · have hnot : ¬ inW ws.length l := by
          intro ha
          have := ha _ HMEM.out
          rw [← HN.out] at this
          exact hb this
        have HNOT := Lib.hid hnot
        clear hnot
        generalize l.getD j 0 = x at *
        by_cases hneg : x < 0
        · clear hb
          go_wp2_with fail
          go_ret2
          exact ⟨hG, .inr ⟨HNOT.out, rfl⟩⟩
        · have hge : (n : Int) ≤ x := by omega
          have hge0 : 0 ≤ x := by omega
          clear hb hneg
          go_wp2_with fail
          go_ret2
          exact ⟨hG, .inr ⟨HNOT.out, rfl⟩⟩
    · go_wp2_with fail
      go_ret2
      have hfull : l.take j = l := List.take_of_length_le (by rw [← HM.out]; omega)
      have hin := HIN.out
      rw [hfull] at hM hin
      rw [HN.out] at hin
      exact ⟨hG, .inl ⟨hin, _, rfl, hM⟩⟩
end Go.Proofs.YtgajmhpnilkmiaaDoor
namespace Go.Proofs.YtgajmhpnilkmiaaDoor
open Go.RowKit Pl

theorem nodup_dwords (l : List Str) : (dwords l).Nodup := by
  have aux : ∀ (l ws : List Str), ws.Nodup → (l.foldl addW ws).Nodup := by
    intro l
    induction l with
    | nil => intro ws h; exact h
    | cons s l ih =>
      intro ws h
      rw [List.foldl_cons]
      apply ih
      unfold addW
      split
      · exact h
      · rename_i hs
        rw [List.nodup_append]
        refine ⟨h, by simp, ?_⟩
        intro a ha b hb e
        obtain rfl := List.mem_singleton.1 hb
        subst e
        exact hs ha
  exact aux l [] (by simp)
/- the place found among the first k words -/
def seek (ws : List Str) (s : Str) (k : Nat) : Nat := if ws.idxOf s < k then ws.idxOf s else ws.length
theorem seek_zero (ws : List Str) (s : Str) : seek ws s 0 = ws.length := by unfold seek; rw [if_neg (by omega)]
theorem seek_hit {ws : List Str} {s : Str} {k : Nat} (h : ws.Nodup) (hk : k < ws.length) (e : ws.getD k [] = s) : seek ws s (k + 1) = k := by
  rw [List.getD_eq_getElem?_getD, List.getElem?_eq_getElem hk] at e
  have e : ws[k] = s := e
  have : ws.idxOf s = k := by rw [← e]; exact h.idxOf_getElem k hk
  unfold seek
  rw [this, if_pos (by omega)]
theorem seek_miss {ws : List Str} {s : Str} {k : Nat} (hk : k < ws.length) (e : ws.getD k [] ≠ s) : seek ws s (k + 1) = seek ws s k := by
  rw [List.getD_eq_getElem?_getD, List.getElem?_eq_getElem hk] at e
  have e : ws[k] ≠ s := e
  have : ws.idxOf s ≠ k := by
    intro h
    subst h
    exact e (List.getElem_idxOf hk)
  unfold seek
  by_cases h1 : ws.idxOf s < k
  · rw [if_pos h1, if_pos (by omega)]
  · rw [if_neg h1, if_neg (by omega)]
theorem seek_all (ws : List Str) (s : Str) : seek ws s ws.length = ws.idxOf s := by
  unfold seek
  split
  · rfl
  · have := List.idxOf_le_length (a := s) (l := ws)
    omega
theorem idx_addW (ws : List Str) (s : Str) : (addW ws s).idxOf s = ws.idxOf s := by
  by_cases h : s ∈ ws
  · exact idxOf_addW h
  · rw [idxOf_new h, List.idxOf_eq_length h]

end Go.Proofs.YtgajmhpnilkmiaaDoor
namespace Go.Proofs.YtgajmhpnilkmiaaDoor
open Go.RowKit Pl

theorem didx_in (l : List Str) : inW (dwords l).length (didx l) := by
  intro i hi
  obtain ⟨s, hs, rfl⟩ := List.mem_map.1 hi
  have := List.idxOf_lt_length_of_mem ((mem_dwords l s).2 hs)
  omega
theorem didx_in_own (l : List Str) : inW l.length (didx l) := fun i hi => by
  have h1 := didx_in l i hi
  have h2 := dwords_length_le l
  omega
theorem didx_length (l : List Str) : (didx l).length = l.length := by unfold didx; rw [List.length_map]
theorem undict_didx (l : List Str) : undict (dwords l) (didx l) = l := by
  unfold undict didx
  rw [List.map_map]
  conv => rhs; rw [← List.map_id l]
  refine List.map_congr_left fun s hs => ?_
  have hm := (mem_dwords l s).2 hs
  have hlt := List.idxOf_lt_length_of_mem hm
  show (dwords l).getD ((((dwords l).idxOf s : Nat) : Int)).toNat [] = s
  rw [Int.toNat_natCast, List.getD_eq_getElem?_getD, List.getElem?_eq_getElem hlt]
  exact List.getElem_idxOf hlt
theorem one_vs (xs : List Str) : ∀ u ∈ xs.map vs, u.oneCell' = true := by
  intro u hu
  obtain ⟨x, _, rfl⟩ := List.mem_map.1 hu
  rfl
/- an empty row that was just laid -/
theorem Mine.bare (w : World) (t : TypeId) : Mine (w.alloc (.cells #[] t)) w.heap.size t (.slice (some ⟨w.heap.size, 0, none⟩) 0 0) [] :=
  Mine.mk' (xs := []) (Nat.le_refl _) (Box.new w t #[]) (Nat.le_refl _) (Nat.zero_le _) rfl rfl
theorem didx_i64 {l : List Str} (hl : l.length ≤ 1000000000) : ∀ x ∈ didx l, I64 x := fun x hx => by
  have := didx_in_own l x hx
  unfold I64
  omega
theorem undict_last {ws : List Str} {l : List Int} {q : Nat} : (undict ws (l ++ [(q : Int)])).getD l.length [] = ws.getD q [] := by
  unfold undict
  rw [List.map_append, List.getD_eq_getElem?_getD, List.getElem?_append_right (by simp)]
  simp
theorem inW_snoc {n : Nat} {l : List Int} {x : Int} (h : inW n l) : inW n (l ++ [x]) ↔ 0 ≤ x ∧ x < n := by
  constructor
  · intro k
    exact k x (by simp)
  · intro k i hi
    rcases List.mem_append.1 hi with h1 | h1
    · exact h i h1
    · obtain rfl := List.mem_singleton.1 h1
      exact k

end Go.Proofs.YtgajmhpnilkmiaaDoor
namespace Go.Proofs.YtgajmhpnilkmiaaDoor
open Go.RowKit Pl

def cells5 (x : Clm) (v : Value) : List Value := [.int .i64 x.1, .int .i64 x.2.1, .int .i64 x.2.2.1, .int .i64 x.2.2.2, v]
theorem vbl_cells (x : Clm) (v : Value) : vbl x v = .agg (cells5 x v).toArray := rfl
theorem infoR : (Tryd.prog.info? 55).map (·.size) = some 5 := by kernel_rfl
theorem infoB : (Tryd.prog.info? 59).map (·.size) = some 5 := by kernel_rfl
theorem Box.there5 {w : World} {g : Nat} {t : TypeId} {d : Clm} {v : Value} (h : Box w g t (cells5 d v).toArray) : w.there g 0 5 := by
  intro j hj
  refine ⟨?_, ?_⟩
  · rw [Nat.zero_add, h.cell]
    simp [cells5, hj]
  · rw [Nat.zero_add]; exact h.frozen j
theorem Box.range5 {w : World} {g : Nat} {t : TypeId} {d : Clm} {v : Value} (h : Box w g t (cells5 d v).toArray) : w.rangeAt g 0 (cells5 d v) := fun j u hu => by
  rw [Nat.zero_add, h.cell]
  simpa using hu
theorem put5_keeps (w : World) (g : Nat) (c : Clm) (v : Value) : Keeps (fun i => i = g) w (w.setCells g 0 (cells5 c v)) := by
  show Keeps _ w (((((w.setCell ⟨g, 0, none⟩ _).setCell ⟨g, 1, none⟩ _).setCell ⟨g, 2, none⟩ _).setCell ⟨g, 3, none⟩ _).setCell ⟨g, 4, none⟩ _)
  exact (((((Keeps.refl (fun i => i = g) w).setCell (p := ⟨g, 0, none⟩) (.inl rfl) _).setCell (p := ⟨g, 1, none⟩) (.inl rfl) _).setCell (p := ⟨g, 2, none⟩) (.inl rfl) _).setCell (p := ⟨g, 3, none⟩) (.inl rfl) _).setCell (p := ⟨g, 4, none⟩) (.inl rfl) _
theorem Box.put5 {w : World} {g : Nat} {t : TypeId} {a : Clm} {u : Value} (h : Box w g t (cells5 a u).toArray) (c : Clm) (v : Value) : Box (w.setCells g 0 (cells5 c v)) g t (cells5 c v).toArray := by
  have h1 := ((((h.set_ 0 (.int .i64 c.1)).set_ 1 (.int .i64 c.2.1)).set_ 2 (.int .i64 c.2.2.1)).set_ 3 (.int .i64 c.2.2.2)).set_ 4 v
  show Box (((((w.setCell ⟨g, 0, none⟩ _).setCell ⟨g, 1, none⟩ _).setCell ⟨g, 2, none⟩ _).setCell ⟨g, 3, none⟩ _).setCell ⟨g, 4, none⟩ _) g t _
  simpa [cells5] using h1
section
variable {ops : Array Oper} {rest : List Oper} {o : Oper} {a : Act} {w : World} {Q : Exit → Act → World → Prop}
theorem st5 (T : TypeId) (hT : (Tryd.prog.info? T).map (·.size) = some 5) (x y : Operand) (g : Nat) (c d : Clm) (v u : Value) (t : TypeId) (hv : v.oneCell' = true) (hgd : o.guard = none) (ho : o.op = .store T x y)
    (hx : a.eval x = .pointer (some ⟨g, 0, none⟩)) (hy : a.eval y = .agg (cells5 c v).toArray) (hb : Box w g t (cells5 d u).toArray)
    (h : ∀ w', Box w' g t (cells5 c v).toArray → Keeps (fun i => i = g) w w' → wpList Tryd.prog ops Q rest (a.put o.dst undef) w') : wpList Tryd.prog ops Q (o :: rest) a w := by
  refine wpList_store_mid hgd T x y ho g 0 (cells5 c v).toArray hx hy hb.there5 hT ?_ ?_
  · simp [cells5, hv]; simp [Value.oneCell']
  · exact h _ (hb.put5 c v) (put5_keeps w g c v)
theorem ld5 (T : TypeId) (hT : (Tryd.prog.info? T).map (·.size) = some 5) {d : TypeDesc} (hu : Tryd.prog.underlying T = some d) (hd : d.isRow = true) (x : Operand) (g : Nat) (c : Clm) (v : Value) (t : TypeId) (hgd : o.guard = none) (ho : o.op = .load T x)
    (hx : a.eval x = .pointer (some ⟨g, 0, none⟩)) (hb : Box w g t (cells5 c v).toArray)
    (h : wpList Tryd.prog ops Q rest (a.put o.dst (.agg (cells5 c v).toArray)) w) : wpList Tryd.prog ops Q (o :: rest) a w :=
  wpList_load_mid hgd T x ho g 0 hx (cells5 c v) _ hb.range5 hu hd hT h
end
theorem results_cell5 {fn : Func} {p : Tmp} {ty : TypeId} (h : fn.results = #[.cell p ty]) {tmps : Array Value} {w : World} {g : Nat} {c : Clm} {v : Value} {t : TypeId} (hp : tmps.getD p undef = .pointer (some ⟨g, 0, none⟩)) (hT : (Tryd.prog.info? ty).map (·.size) = some 5) {d : TypeDesc} (hu : Tryd.prog.underlying ty = some d) (hd : d.isRow = true) (hb : Box w g t (cells5 c v).toArray) :
    (results fn tmps).run Tryd.prog w = .ok (vbl c v) w := by
  have hl := run_loadVar_mid (P := Tryd.prog) w g 0 ty (cells5 c v) d hb.range5 hu hd hT
  simp only [results, h]
  rw [Array.getD_eq_getD_getElem?] at hp
  simp [Sem.run_bind, hp, Result.andThen, hl, asAddr, vbl_cells]
end Go.Proofs.YtgajmhpnilkmiaaDoor
namespace Go.Proofs.YtgajmhpnilkmiaaDoor
open Go.RowKit Pl

theorem Box.five {w : World} {g : Nat} {t : TypeId} {c : Clm} {v : Value} (h : Box w g t (cells5 c v).toArray) :
    w.cell? ⟨g, 0, none⟩ = some (.int .i64 c.1) ∧ w.cell? ⟨g, 1, none⟩ = some (.int .i64 c.2.1) ∧ w.cell? ⟨g, 2, none⟩ = some (.int .i64 c.2.2.1) ∧ w.cell? ⟨g, 3, none⟩ = some (.int .i64 c.2.2.2) ∧ w.cell? ⟨g, 4, none⟩ = some v :=
  ⟨h.cell 0, h.cell 1, h.cell 2, h.cell 3, h.cell 4⟩
set_option maxHeartbeats 6400000 in
set_option maxRecDepth 100000 in
theorem of_any (x : Clm) (A : Option Addr) (n c : Nat) (w : World) :
    Calls Tryd.prog 23 #[vbl x (.slice A n c)] w fun e w' => e = .returned (vbl x (.slice A n c)) ∧ Grew w w' := by
  have HG := Lib.hid (((Grew.refl w).alloc (.cells (cells5 x (.slice A n c)).toArray 55)).alloc (.cells (cells5 zc (.slice none 0 0)).toArray 59))
  have HB := Lib.hid ((Box.new w 55 (cells5 x (.slice A n c)).toArray).alloc (.cells (cells5 zc (.slice none 0 0)).toArray 59))
  have HN := Lib.hid (Box.new (w.alloc (.cells (cells5 x (.slice A n c)).toArray 55)) 59 (cells5 zc (.slice none 0 0)).toArray)
  rw [World.size_alloc] at HN
  unfold vbl
  go_enter Tryd.func23, Tryd.ntmps23
  go_upto_region 1 with fail
  change Code.wp _ _ _ _ ((w.alloc (.cells (cells5 x (.slice A n c)).toArray 55)).alloc (.cells (cells5 zc (.slice none 0 0)).toArray 59))
  generalize (w.alloc (.cells (cells5 x (.slice A n c)).toArray 55)).alloc (.cells (cells5 zc (.slice none 0 0)).toArray 59) = w1 at *
  obtain ⟨c0, c1, c2, c3, c4⟩ := HB.out.five
  go_wp2_with (refine st5 59 infoB (.tmp 2) (.tmp 13) (w.heap.size + 1) x _ (.slice A n c) _ _ rfl rfl rfl rfl rfl HN.out ?_; intro w2 hb2 hk2; clear c0 c1 c2 c3 c4)
  exact bodyPost_ret (v := vbl x (.slice A n c)) (results_cell5 rfl rfl infoB Tryd.underlying59 rfl hb2) rfl ⟨rfl, Keeps.then_ HG.out hk2 (fun i hi e => by omega)⟩
end Go.Proofs.YtgajmhpnilkmiaaDoor
