/- block.Decode. Plain facts for the law CodecKeys: words as texts on the wire. strings.Builder: written by bytes and strings; what it holds. Labels and their text: the generator Labels, labels.Text. -/
import Derived.Test.YtgajmhpnilkmiaaDoorCodecKeysP19
import Derived.Test.YtgajmhpnilkmiaaDoorCodecKeysP24
import Derived.Test.YtgajmhpnilkmiaaDoorCodecKeysP23
import Derived.Test.YtgajmhpnilkmiaaDoorCodecKeysP20
import Derived.Lib.Builder
import Derived.Laws.Externs
import Derived.Lib.UnsafeStr
import Derived.StillTailTactics
import Derived.Test.YtgajmhpnilkmiaaDoorCodecKeysP22
namespace Go.Proofs.YtgajmhpnilkmiaaDoor
open Go.RowKit Pl

theorem results_cell5_2 {fn : Func} {p q : Tmp} {ty : TypeId} (h : fn.results = #[.cell p ty, .tmp q]) {tmps : Array Value} {w : World} {g : Nat} {c : Clm} {v u : Value} {t : TypeId} (hp : tmps.getD p undef = .pointer (some ⟨g, 0, none⟩)) (hq : tmps.getD q undef = u) (hT : (Tryd.prog.info? ty).map (·.size) = some 5) {d : TypeDesc} (hu : Tryd.prog.underlying ty = some d) (hd : d.isRow = true) (hb : Box w g t (cells5 c v).toArray) :
    (results fn tmps).run Tryd.prog w = .ok (.tuple #[vbl c v, u]) w := by
  have hl := run_loadVar_mid (P := Tryd.prog) w g 0 ty (cells5 c v) d hb.range5 hu hd hT
  simp only [results, h]
  rw [Array.getD_eq_getD_getElem?] at hp hq
  simp [Sem.run_bind, hp, hq, Result.andThen, hl, asAddr, vbl_cells]
set_option maxHeartbeats 1600000 in
theorem readR_any (v : Value) (bs : List Nat) (w : World) (h : Rd w w.heap.size v (bs.map vb)) (hb : Bytes bs) (hl : bs.length ≤ 1000000) :
    Calls Tryd.prog 12 #[v] w fun e w' => ∃ g u, e = .returned (.pointer (some ⟨g, 0, none⟩)) ∧ WR w' w.heap.size g u bs 0 0 ∧ w.heap.size ≤ g ∧ Grew w w' := by
  have HC := Lib.hid (clone_any v bs w h (by omega))
  obtain ⟨A, n, c, rfl, hn, hc⟩ := h.form
  clear h hn
  go_enter Tryd.func12, Tryd.ntmps12
  go_wp2_with fail
  refine HC.out.mono ?_
  rintro e w2 ⟨v2, rfl, k1, k2⟩
  obtain ⟨A2, n2, c2, rfl, -⟩ := k1.slice
  have hs := k2.size
  go_wp2_with fail
  go_ret
  exact ⟨_, _, rfl, ⟨Box.new w2 93 _, k1.alloc _, hb, hl, Nat.zero_le _⟩, hs, k2.alloc _⟩
theorem uP_rest {bs : List Nat} {n : Nat} {t : List Nat} (h : uP 0 0 bs = .inr (n, t)) : t.length ≤ bs.length ∧ ∀ x ∈ t, x ∈ bs := by
  obtain ⟨k, _, rfl⟩ := uP_suffix _ _ _ _ _ h
  exact ⟨by rw [List.length_drop]; omega, fun x hx => List.mem_of_mem_drop hx⟩
theorem sRaw_sub (bs : List Nat) : (sRaw (.inr bs)).1.length ≤ bs.length ∧ ∀ x ∈ (sRaw (.inr bs)).1, x ∈ bs := by
  cases h : uP 0 0 bs with
  | inl e => rw [sRaw_err (sU_err h)]; simp
  | inr p =>
    obtain ⟨n, t⟩ := p
    obtain ⟨h1, h2⟩ := uP_rest h
    by_cases hl : t.length < n
    · rw [sRaw_more (sU_ok h) hl]; simp
    · rw [sRaw_ok (sU_ok h) hl]
      exact ⟨by simp only [List.length_take]; omega, fun x hx => h2 x (List.mem_of_mem_take hx)⟩
theorem sRaw_len {bs : List Nat} {r : List Nat × RSt} (h : sRaw (.inr bs) = r) : r.1.length ≤ bs.length := by rw [← h]; exact (sRaw_sub bs).1
theorem sRaw_bytes {bs : List Nat} {r : List Nat × RSt} (h : sRaw (.inr bs) = r) (hb : Bytes bs) : Bytes r.1 := by rw [← h]; exact fun x hx => hb x ((sRaw_sub bs).2 x hx)
theorem sRaw_len' (bs : List Nat) (a : Nat) (er : Int) : (sRaw (stP bs a er)).1.length ≤ bs.length := by
  by_cases h : er = 0
  · rw [h, stP_ok]
    have := (sRaw_sub (bs.drop a)).1
    rw [List.length_drop] at this
    omega
  · rw [stP_err bs a h, sRaw_err (sU_inl er)]; simp
theorem sRaw_bytes' (bs : List Nat) (a : Nat) (er : Int) (hb : Bytes bs) : Bytes (sRaw (stP bs a er)).1 := by
  by_cases h : er = 0
  · rw [h, stP_ok]
    exact fun x hx => hb x (List.mem_of_mem_drop ((sRaw_sub (bs.drop a)).2 x hx))
  · rw [stP_err bs a h, sRaw_err (sU_inl er)]; exact fun x hx => by simp at hx
theorem ld5v' {ops : Array Oper} {rest : List Oper} {o : Oper} {a : Act} {w : World} {Q : Exit → Act → World → Prop} (T : TypeId) (hT : (Tryd.prog.info? T).map (·.size) = some 5) {d : TypeDesc} (hu : Tryd.prog.underlying T = some d) (hd : d.isRow = true) (x : Operand) (g : Nat) (c : Clm) (v : Value) (t : TypeId) (hgd : o.guard = none) (ho : o.op = .load T x)
    (hx : a.eval x = .pointer (some ⟨g, 0, none⟩)) (hb : Box w g t (cells5 c v).toArray)
    (h : wpList Tryd.prog ops Q rest (a.put o.dst (.agg #[.int .i64 c.1, .int .i64 c.2.1, .int .i64 c.2.2.1, .int .i64 c.2.2.2, v])) w) : wpList Tryd.prog ops Q (o :: rest) a w := ld5 T hT hu hd x g c v t hgd ho hx hb h
/- what Decode returns -/
def BDecPost (w : World) (o : Sum Int (Clm × List Clm)) (e : Ending) (w' : World) : Prop :=
  Grew w w' ∧
  match o with
  | .inl er => e = .returned (.tuple #[vbl zc (.slice none 0 0), .int .i64 er])
  | .inr (x, l) => ∃ v, e = .returned (.tuple #[vbl x v, .int .i64 0]) ∧ MineC w' w.heap.size v l
theorem decB_end {bs : List Nat} {r : List Nat × RSt} {u : Nat × RSt} (h1 : sRaw (.inr bs) = r) (h2 : sU r.2 = u) (h : sEnd u.2 ≠ 0) : decB bs = .inl 2 := by
  unfold decB; simp only [h1, h2]; rw [if_pos h]
theorem decB_sum {bs : List Nat} {r : List Nat × RSt} {u : Nat × RSt} (h1 : sRaw (.inr bs) = r) (h2 : sU r.2 = u) (h : sEnd u.2 = 0) (hs : u.1 ≠ hashB blockL r.1) : decB bs = .inl 11 := by
  unfold decB; simp only [h1, h2]; rw [if_neg (by simp [h]), if_pos hs]
theorem decB_in {bs : List Nat} {r : List Nat × RSt} {u : Nat × RSt} (h1 : sRaw (.inr bs) = r) (h2 : sU r.2 = u) (h : sEnd u.2 = 0) (hs : u.1 = hashB blockL r.1) : decB bs = inB r.1 := by
  unfold decB; simp only [h1, h2]; rw [if_neg (by simp [h]), if_neg (by simp [hs])]
section
variable {core : List Nat} {a b c d : Int × RSt} {r : List Nat × RSt} (h1 : sI (.inr core) = a) (h2 : sI a.2 = b) (h3 : sI b.2 = c) (h4 : sI c.2 = d) (h5 : sRaw d.2 = r)
include h1 h2 h3 h4 h5
theorem inB_end (h : sEnd r.2 ≠ 0) : inB core = .inl 2 := by
  unfold inB; simp only [h1, h2, h3, h4, h5]; rw [if_pos h]
theorem inB_none (h : sEnd r.2 = 0) (hd : refDecode r.1 = none) : inB core = .inl 2 := by
  unfold inB; simp only [h1, h2, h3, h4, h5]; rw [if_neg (by simp [h])]; simp only [hd]
theorem inB_bad {l : List Clm} (h : sEnd r.2 = 0) (hd : refDecode r.1 = some l) (hk : ¬ okB (a.1, b.1, c.1, d.1)) : inB core = .inl 1 := by
  unfold inB; simp only [h1, h2, h3, h4, h5]; rw [if_neg (by simp [h])]; simp only [hd]; rw [if_neg hk]
theorem inB_ok {l : List Clm} (h : sEnd r.2 = 0) (hd : refDecode r.1 = some l) (hk : okB (a.1, b.1, c.1, d.1)) : inB core = .inr ((a.1, b.1, c.1, d.1), l) := by
  unfold inB; simp only [h1, h2, h3, h4, h5]; rw [if_neg (by simp [h])]; simp only [hd]; rw [if_pos hk]
end
end Go.Proofs.YtgajmhpnilkmiaaDoor
namespace Go.Proofs.YtgajmhpnilkmiaaDoor
open Go.RowKit Pl

def txt (s : Str) : List Nat := rawB (bl ⟨s.toArray⟩)
def txts (ws : List Str) : List Nat := (ws.map txt).flatten
theorem txts_snoc (ws : List Str) (s : Str) : txts (ws ++ [s]) = txts ws ++ txt s := by simp [txts]
theorem txts_take {ws : List Str} {j : Nat} (h : j < ws.length) : txts (ws.take (j + 1)) = txts (ws.take j) ++ txt (ws.getD j []) := by
  rw [List.take_add_one, List.getElem?_eq_getElem h, List.getD_eq_getElem?_getD, List.getElem?_eq_getElem h]
  exact txts_snoc _ _
theorem txts_drop {ws : List Str} {j : Nat} (h : j < ws.length) : txts (ws.drop j) = txt (ws.getD j []) ++ txts (ws.drop (j + 1)) := by
  rw [List.drop_eq_getElem_cons h, List.getD_eq_getElem?_getD, List.getElem?_eq_getElem h]
  unfold txts
  rw [List.map_cons, List.flatten_cons]
  rfl
theorem str_size (s : Str) : (⟨s.toArray⟩ : ByteArray).size = s.length := by show s.toArray.size = _; simp
theorem txt_len {s : Str} (h : s.length ≤ 300) : (txt s).length ≤ 310 := by
  unfold txt rawB
  rw [List.length_append, bl_length, str_size]
  have := vint_len10 (n := s.length) (by omega)
  omega
theorem txts_len (ws : List Str) (h : ∀ s ∈ ws, s.length ≤ 300) : (txts ws).length ≤ 310 * ws.length := by
  induction ws with
  | nil => simp [txts]
  | cons s ws ih =>
    have h1 := txt_len (h s (by simp))
    have h2 := ih fun x hx => h x (by simp [hx])
    have h3 : txts (s :: ws) = txt s ++ txts ws := by simp [txts]
    rw [h3, List.length_append, List.length_cons]
    omega
theorem txts_bytes (ws : List Str) : Bytes (txts ws) := by
  induction ws with
  | nil => intro x hx; simp [txts] at hx
  | cons s ws ih =>
    have h3 : txts (s :: ws) = txt s ++ txts ws := by simp [txts]
    rw [h3]
    exact bytes_app (rawB_bytes (bl_bytes _)) ih
theorem dwords_small {ks : List Str} {n : Nat} (h : ∀ s ∈ ks, s.length ≤ n) : ∀ s ∈ dwords ks, s.length ≤ n := fun s hs => h s ((mem_dwords ks s).1 hs)
theorem codes_len (l : List Int) : (codes l).length ≤ 70 * l.length := by
  induction l with
  | nil => simp [codes]
  | cons a l ih =>
    have h1 := code_len_le a
    have h2 : codes (a :: l) = code a ++ codes l := by simp [codes]
    rw [h2, List.length_append, List.length_cons]
    omega
theorem seconds_len (a b : Int) (l : List Int) : (seconds a b l).length = l.length := by
  induction l generalizing a b with
  | nil => simp [seconds]
  | cons x l ih => simp [seconds, ih]
theorem ints_small (l : List Int) (h : l.length ≤ 8) : (pack (ints l)).length ≤ 1000 := by
  rw [pack_length]
  unfold ints
  rw [List.length_append]
  have h1 := code_len_le (l.length : Int)
  have h2 := codes_len (seconds 0 0 l)
  rw [seconds_len] at h2
  omega
theorem dwords_fresh {ks : List Str} {s : Str} (h : ¬ s ∈ ks) : (dwords (ks ++ [s])).length = (dwords ks).length + 1 := by
  rw [dwords_snoc]
  unfold addW
  rw [if_neg (fun h' => h ((mem_dwords ks s).1 h'))]
  simp
theorem dwords_old {ks : List Str} {s : Str} (h : s ∈ ks) : (dwords (ks ++ [s])).length = (dwords ks).length := by
  rw [dwords_snoc]
  unfold addW
  rw [if_pos ((mem_dwords ks s).2 h)]
theorem mem_take_succ {ks : List Str} {j : Nat} (h : j < ks.length) (s : Str) : s ∈ ks.take (j + 1) ↔ s ∈ ks.take j ∨ ks.getD j [] = s := by
  rw [List.take_add_one, List.getElem?_eq_getElem h, List.getD_eq_getElem?_getD, List.getElem?_eq_getElem h, List.mem_append]
  show _ ∨ s ∈ [ks[j]] ↔ _ ∨ ks[j] = s
  rw [List.mem_singleton, eq_comm (a := s)]
end Go.Proofs.YtgajmhpnilkmiaaDoor
namespace Go.Proofs.YtgajmhpnilkmiaaDoor
open Go.RowKit Pl

structure SB (w : World) (base g : Nat) (p v : Value) (bs : List Nat) : Prop where
  box : Box w g 125 #[p, v]
  row : Mine w base 5 v (bs.map vb)
  self : p = .pointer none ∨ p = .pointer (some ⟨g, 0, none⟩)
theorem SB.cells {w : World} {base g : Nat} {p v : Value} {bs : List Nat} (h : SB w base g p v bs) : w.cell? ⟨g, 0, none⟩ = some p ∧ w.cell? ⟨g, 1, none⟩ = some v := ⟨h.box.cell 0, h.box.cell 1⟩
theorem infoSB : ∃ j, Tryd.prog.info? 125 = some j ∧ j.size = 2 := by
  have h : (Tryd.prog.info? 125).map (·.size) = some 2 := by kernel_rfl
  cases hj : Tryd.prog.info? 125 with
  | none => rw [hj] at h; cases h
  | some j => rw [hj] at h; exact ⟨j, rfl, by simpa using h⟩
theorem shapeSB {w : World} {base g : Nat} {p v : Value} {bs : List Nat} (h : SB w base g p v bs) : w.shape? g = some (125, 2) := by
  have := h.box
  unfold Box at this
  simp [World.shape?, this]
set_option maxHeartbeats 1600000 in
set_option maxRecDepth 100000 in
theorem copyCheck_any (g base : Nat) (p v : Value) (bs : List Nat) (w : World) (h : SB w base g p v bs) :
    Calls Tryd.prog 102 #[.pointer (some ⟨g, 0, none⟩)] w fun e w' => e = .returned (.tuple #[]) ∧ SB w' base g (.pointer (some ⟨g, 0, none⟩)) v bs ∧ KeepsR g w w' := by
  obtain ⟨c0, c1⟩ := h.cells
  obtain ⟨j, hj, hj2⟩ := infoSB
  have hne := fun w' => Lib.run_neq_ptr_same (P := Tryd.prog) w' ⟨g, 0, none⟩ Tryd.underlying123 hj
  have hto := Lib.run_to_unsafe (P := Tryd.prog) w (src := 123) (dst := 184) ⟨g, 0, none⟩ Tryd.underlying123 Tryd.underlying184 hj (by omega) (shapeSB h) (Nat.zero_lt_succ 1)
  have hfrom := Lib.run_from_unsafe (P := Tryd.prog) w (src := 184) (dst := 123) ⟨g, 0, none⟩ Tryd.underlying184 Tryd.underlying123 hj (shapeSB h) (by kernel_rfl)
  have hne2 : ∀ w', (callFunc 125 #[.pointer (some ⟨g, 0, none⟩)]).run Tryd.prog w' = .ok (.value (.pointer (some ⟨g, 0, none⟩))) w' := fun w' => by
    rw [run_callFunc_extern Tryd.func125 (by kernel_rfl) (by kernel_rfl) (by kernel_rfl) (e := Extern.AbiNoEscape.same) (by kernel_rfl), Lib.run_noEscape]
    rfl
  have H := Lib.hid h
  have f0 := h.box.frozen 0
  have hs := h.self
  clear h
  rcases hs with rfl | rfl
  · go_enter Tryd.func102, Tryd.ntmps102
    go_wp2_with fail
    go_end0
    exact ⟨rfl, ⟨by simpa using H.out.box.set_ 0 _, H.out.row.far (fun e => H.out.row.ne_box e H.out.box (by decide) rfl) _, .inr rfl⟩, KeepsR.set g _ 0 _⟩
  · go_enter Tryd.func102, Tryd.ntmps102
    go_wp2_with fail
    go_end0
    exact ⟨rfl, H.out, KeepsR.refl _ _⟩
theorem SB.step {w w1 : World} {base g : Nat} {p v v' : Value} {bs ys : List Nat} (h : SB w base g p v bs) (hm : Mine w1 base 5 v' ((bs ++ ys).map vb)) (hk : Keeps (fun i => v.ownBlock = some i) w w1) :
    SB (w1.setCell ⟨g, 1, none⟩ v') base g p v' (bs ++ ys) ∧ KeepsW g v w (w1.setCell ⟨g, 1, none⟩ v') := by
  have hg1 : ¬ v.ownBlock = some g := fun e => h.row.ne_box e h.box (by decide) rfl
  have hbox := h.box.keep hk hg1
  refine ⟨⟨by simpa using hbox.set_ 1 v', hm.far (fun e => hm.ne_box e hbox (by decide) rfl) _, h.self⟩, ?_⟩
  exact (Keeps.mono hk (fun i _ e => .inr e)).setCell (.inl (.inl rfl)) _
/- what a write keeps -/
theorem SB.keepsB {w w' : World} {base g : Nat} {p v : Value} {bs : List Nat} (h : SB w base g p v bs) (hg : base ≤ g) (hk : KeepsW g v w w') : Keeps (fun i => base ≤ i) w w' := Keeps.mono hk (fun i _ e => by
  rcases e with e | e
  · rw [e]; exact hg
  · exact (h.row.lt i e).1)
theorem Box.keepSB {w w' : World} {base g : Nat} {p v : Value} {bs : List Nat} {k : Nat} {t : TypeId} {xs : Array Value} (hb : Box w k t xs) (h : SB w base g p v bs) (hk : KeepsW g v w w') (h1 : t ≠ 125) (h2 : t ≠ 5) : Box w' k t xs := hb.keep hk (fun e => by
  rcases e with e | e
  · exact hb.ne_ h.box h1 e
  · exact h.row.ne_box e hb (fun e1 => h2 e1.symm) rfl)
theorem keeps_freeze {S : Nat → Prop} (w : World) (p : Addr) (n : Nat) (hp : S p.block) : Keeps S w (w.freeze p n) := by
  unfold World.freeze
  split
  · exact Keeps.refl _ _
  · exact ⟨rfl, rfl, rfl, by simp, fun k hk hn => by
      simp only [Array.getElem?_modify]
      rw [if_neg (fun e => hn (by rw [← e]; exact hp))]⟩
set_option maxHeartbeats 1600000 in
set_option maxRecDepth 100000 in
theorem sbString_any (g base : Nat) (p v : Value) (bs : List Nat) (w : World) (h : SB w base g p v bs) (h0 : 0 < bs.length) (hB : Bytes bs) (hl : bs.length < 900000000) :
    Calls Tryd.prog 73 #[.pointer (some ⟨g, 0, none⟩)] w fun e w' => ∃ s, e = .returned (.string s) ∧ bl s = bs ∧ Keeps (fun i => base ≤ i) w w' := by
  obtain ⟨c0, c1⟩ := h.cells
  obtain ⟨l, hlu⟩ : ∃ l : List UInt8, l.map UInt8.toNat = bs := ⟨bs.map UInt8.ofNat, by
    rw [List.map_map]
    conv => rhs; rw [← List.map_id bs]
    apply List.map_congr_left
    intro x hx
    have := hB x hx
    simp [Nat.mod_eq_of_lt this]⟩
  have hll : l.length = bs.length := by rw [← hlu, List.length_map]
  rcases h.row.form with ⟨_, hn⟩ | ⟨r, cap, cur, rfl, hbr, hbox, h1, h2, h3, h4⟩
  · have := congrArg List.length hn
    rw [List.length_map, List.length_nil] at this
    omega
  rw [List.length_map] at h1
  have hcells : ∀ (W : World), W.heap = w.heap → ∀ j x, l[j]? = some x → W.cell? ((⟨r, 0, none⟩ : Addr).add j) = some (.int .u8 x.toNat) := by
    intro W hW j x hx
    have hj : j < bs.length := by rw [← hll]; exact (List.getElem?_eq_some_iff.1 hx).1
    have := h.row.cellAt (j := j) (by rw [List.length_map]; exact hj)
    rw [add_none, Nat.zero_add, World.cell?_of_block (a := ⟨r, j, none⟩) (w := w) (w' := W) (by rw [hW]), this]
    simp only [List.getElem_map]
    have hx2 : bs[j] = x.toNat := by
      have e1 : bs[j]? = some x.toNat := by rw [← hlu, List.getElem?_map, hx]; rfl
      rw [List.getElem?_eq_getElem hj] at e1
      exact Option.some.inj e1
    rw [hx2]; rfl
  have hsd := fun W => Lib.run_unsafeSliceData_row (P := Tryd.prog) W #[33] 162 ⟨r, 0, none⟩ bs.length cap (by omega)
  have hsh : w.drew.shape? r = some (5, cap) := by
    have hbx : w.drew.heap[r]? = some (.cells cur 5 (0, 0)) := hbox
    simp [World.shape?, hbx, h3]
  have hus := Lib.run_unsafeString_row (P := Tryd.prog) w.drew 162 3 9 5 Tryd.underlying162 (by kernel_rfl) r cap hsh l (fun e => by rw [e] at hll; simp at hll; omega) (by omega) (by omega) (hcells w.drew rfl)
  rw [hll] at hus
  have hfin : bl ⟨l.toArray⟩ = bs := by unfold bl; simpa using hlu
  have hkf : Keeps (fun i => base ≤ i) w (w.drew.freeze ⟨r, 0, none⟩ bs.length) := Keeps.then_ (Keeps.drew (Keeps.refl _ w)) (keeps_freeze w.drew ⟨r, 0, none⟩ bs.length hbr) (fun i _ e => e)
  have HF := Lib.hid hfin
  have HK := Lib.hid hkf
  rw [List.length_map] at c1
  generalize bs.length = n at *
  clear hcells hsh hlu hll h2 h3 h4 h1 hbox h hfin hkf
  go_enter Tryd.func73, Tryd.ntmps73
  go_upto_region 1 with fail
  go_still_tail 10, (by kernel_rfl)
  change wpList _ _ _ _ _ w.drew
  go_wp2_with fail
  go_ret
  exact ⟨_, rfl, HF.out, HK.out⟩
set_option maxHeartbeats 1600000 in
set_option maxRecDepth 100000 in
theorem writeByte_any (g base : Nat) (p v : Value) (bs : List Nat) (c : Nat) (w : World) (h : SB w base g p v bs) (hl : bs.length < 900000000) (hb : base ≤ w.heap.size) :
    Calls Tryd.prog 71 #[.pointer (some ⟨g, 0, none⟩), .int .u8 (c : Nat)] w fun e w' => e = .returned .nilIface ∧ ∃ p' v', SB w' base g p' v' (bs ++ [c]) ∧ KeepsW g v w w' := by
  have HC := Lib.hid (copyCheck_any g base p v bs w h)
  clear h
  go_enter Tryd.func71, Tryd.ntmps71
  go_wp2_with fail
  refine HC.out.mono ?_
  rintro e w2 ⟨rfl, h2, k2⟩
  obtain ⟨c0, c1⟩ := h2.cells
  have f1 := h2.box.frozen 1
  obtain ⟨A2, n2, c2, rfl, -⟩ := h2.row.slice
  have hs2 := k2.size
  have hlt := h2.box.lt
  go_wp2_with (at_builtin; refine app_one slU8 rfl (.tmp 11) (.tmp 13) rfl rfl (h2.row.alloc _) w2.heap.size 1 (.int .u8 (c : Nat)) rfl (Nat.le_refl _) (by simp) (by simp) rfl (by simp; omega) (by simp; omega) ?_; intro r cap w3 hM3 hk3 hr3 hbr3 hlr3; obtain ⟨q2, hq2⟩ : ∃ q2, q2 = (bs.map vb).length + 1 := ⟨_, rfl⟩; rw [← hq2] at hM3 ⊢; clear hq2; have hb3 := (h2.box.alloc _).keep hk3 (fun e => h2.row.ne_box e h2.box (by decide) rfl); have k0 := hb3.cell 1; have e0 := hb3.frozen 1; simp only [List.getElem?_toArray, List.getElem?_cons_zero, List.getElem?_cons_succ] at k0; clear c0 c1 f1)
  go_ret
  have hS := SB.step (w := w2.alloc (.cells #[.int .u8 (c : Nat)] 5)) (ys := [c]) ⟨h2.box.alloc _, h2.row.alloc _, h2.self⟩ (by rw [List.map_append]; exact hM3) hk3
  exact ⟨rfl, _, _, hS.1, Keeps.then_ (Keeps.alloc (Keeps.mono k2 (fun i _ e => .inl e)) _) hS.2 (fun i _ e => e)⟩
set_option maxHeartbeats 1600000 in
set_option maxRecDepth 100000 in
theorem writeString_any (g base : Nat) (p v : Value) (bs : List Nat) (s : ByteArray) (w : World) (h : SB w base g p v bs) (hl : bs.length < 900000000) (hs : s.size ≤ 1000000) (hb : base ≤ w.heap.size) :
    Calls Tryd.prog 72 #[.pointer (some ⟨g, 0, none⟩), .string s] w fun e w' => (∃ u, e = .returned u) ∧ ∃ p' v', SB w' base g p' v' (bs ++ bl s) ∧ KeepsW g v w w' := by
  have HC := Lib.hid (copyCheck_any g base p v bs w h)
  clear h
  go_enter Tryd.func72, Tryd.ntmps72
  go_wp2_with fail
  refine HC.out.mono ?_
  rintro e w2 ⟨rfl, h2, k2⟩
  obtain ⟨c0, c1⟩ := h2.cells
  have f1 := h2.box.frozen 1
  obtain ⟨A2, n2, c2, rfl, -⟩ := h2.row.slice
  have hs2 := k2.size
  go_wp2_with (at_builtin; refine app_str rfl (.tmp 12) (.tmp 13) rfl rfl h2.row s rfl (by omega) (by omega) ?_; intro A3 m3 c3 w3 hM3 hk3; have hb3 := h2.box.keep hk3 (fun e => h2.row.ne_box e h2.box (by decide) rfl); have k0 := hb3.cell 1; have e0 := hb3.frozen 1; simp only [List.getElem?_toArray, List.getElem?_cons_zero, List.getElem?_cons_succ] at k0; clear c0 c1 f1)
  go_ret2
  have hS := SB.step h2 (ys := bl s) hM3 hk3
  exact ⟨⟨_, rfl⟩, _, _, hS.1, Keeps.then_ (Keeps.mono k2 (fun i _ e => .inl e)) hS.2 (fun i _ e => e)⟩
end Go.Proofs.YtgajmhpnilkmiaaDoor
namespace Go.Proofs.YtgajmhpnilkmiaaDoor
open Go.RowKit Pl

/- a slice of labels: name and value of each, short -/
def RdL (w : World) (v : Value) (ls : List (ByteArray × ByteArray)) : Prop :=
  (∀ p ∈ ls, p.1.size ≤ 16 ∧ p.2.size ≤ 16) ∧ ∃ A c, v = .slice A ls.length c ∧ (0 < ls.length → ∃ b, A = some ⟨b, 0, none⟩ ∧ b < w.heap.size ∧ ∀ j p, ls[j]? = some p → w.cell? ⟨b, j * 2, none⟩ = some (.string p.1) ∧ w.cell? ⟨b, j * 2 + 1, none⟩ = some (.string p.2))
theorem RdL.grew {w w' : World} {v : Value} {ls : List (ByteArray × ByteArray)} (h : RdL w v ls) (k : Grew w w') : RdL w' v ls := by
  obtain ⟨h0, A, c, hv, hx⟩ := h
  refine ⟨h0, A, c, hv, fun hn => ?_⟩
  obtain ⟨b, e, hb, hcell⟩ := hx hn
  refine ⟨b, e, Nat.lt_of_lt_of_le hb k.size, fun j p hp => ?_⟩
  have hbk := k.block b hb (fun e => e)
  exact ⟨(World.cell?_of_block (a := ⟨b, j * 2, none⟩) hbk).trans (hcell j p hp).1, (World.cell?_of_block (a := ⟨b, j * 2 + 1, none⟩) hbk).trans (hcell j p hp).2⟩
theorem RdL.nil (w : World) (c : Nat) : RdL w (.slice none 0 c) [] := ⟨by simp, none, c, rfl, fun h => by simp at h⟩
set_option maxHeartbeats 1600000 in
set_option maxRecDepth 100000 in
theorem labels_any (n : Int) (w : World) (hn : I64 n) :
    Calls Tryd.prog 39 #[.int .i64 n] w fun e w' => ∃ v ls, e = .returned v ∧ RdL w' v ls ∧ ls.length ≤ 2 ∧ Grew w w' := by
  have HA := Lib.hid (arnd' n 4 w hn (by omega) (by omega))
  have hk := arnd_lt n (4 : Int).toNat (by decide)
  generalize arnd n (4 : Int).toNat = k at *
  have hk4 : k < 4 := hk
  have hcase : k = 0 ∨ k = 1 ∨ k = 2 ∨ k = 3 := by omega
  clear hk hk4
  go_enter Tryd.func39, Tryd.ntmps39
  go_wp2_with fail
  refine HA.out.mono ?_
  rintro e w' ⟨rfl, hw'⟩
  rw [hw']; clear hw' w' HA
  rcases hcase with rfl | rfl | rfl | rfl
  · go_wp2_with fail
    go_ret
    exact ⟨_, [], rfl, RdL.nil _ _, by simp, Grew.refl _⟩
  · go_wp2_with fail
    go_ret
    refine ⟨_, [(⟨#[104, 111, 115, 116]⟩, ⟨#[97]⟩)], rfl, ⟨by simp; decide, _, _, rfl, fun _ => ⟨_, rfl, by simp, fun j p hp => ?_⟩⟩, by simp, (Grew.refl w).alloc _⟩
    match j, hp with
    | 0, hp => cases hp; exact ⟨(Box.new w _ _).cell 0, (Box.new w _ _).cell 1⟩
  · go_wp2_with fail
    go_ret
    refine ⟨_, [(⟨#[104, 111, 115, 116]⟩, ⟨#[98]⟩)], rfl, ⟨by simp; decide, _, _, rfl, fun _ => ⟨_, rfl, by simp, fun j p hp => ?_⟩⟩, by simp, (Grew.refl w).alloc _⟩
    match j, hp with
    | 0, hp => cases hp; exact ⟨(Box.new w _ _).cell 0, (Box.new w _ _).cell 1⟩
  · go_wp2_with fail
    go_ret
    refine ⟨_, [(⟨#[104, 111, 115, 116]⟩, ⟨#[98]⟩), (⟨#[122, 111, 110, 101]⟩, ⟨#[120]⟩)], rfl, ⟨by simp; decide, _, _, rfl, fun _ => ⟨_, rfl, by simp, fun j p hp => ?_⟩⟩, by simp, (Grew.refl w).alloc _⟩
    match j, hp with
    | 0, hp => cases hp; exact ⟨(Box.new w _ _).cell 0, (Box.new w _ _).cell 1⟩
    | 1, hp => cases hp; exact ⟨(Box.new w _ _).cell 2, (Box.new w _ _).cell 3⟩
end Go.Proofs.YtgajmhpnilkmiaaDoor
