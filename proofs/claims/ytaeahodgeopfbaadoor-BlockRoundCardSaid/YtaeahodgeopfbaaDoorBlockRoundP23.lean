/- block.Decode. block.Decode, walked. -/
import Derived.Test.YtaeahodgeopfbaaDoorBlockRoundP18
import Derived.Test.YtaeahodgeopfbaaDoorBlockRoundP22
import Derived.Test.YtaeahodgeopfbaaDoorBlockRoundP21
namespace Go.Proofs.YtaeahodgeopfbaaDoor
open Go.RowKit Pl

theorem results_cell5_2 {fn : Func} {p q : Tmp} {ty : TypeId} (h : fn.results = #[.cell p ty, .tmp q]) {tmps : Array Value} {w : World} {g : Nat} {c : Clm} {v u : Value} {t : TypeId} (hp : tmps.getD p undef = .pointer (some ⟨g, 0, none⟩)) (hq : tmps.getD q undef = u) (hT : (Tryd.prog.info? ty).map (·.size) = some 5) {d : TypeDesc} (hu : Tryd.prog.underlying ty = some d) (hd : d.isRow = true) (hb : Box w g t (cells5 c v).toArray) :
    (results fn tmps).run Tryd.prog w = .ok (.tuple #[vbl c v, u]) w := by
  have hl := run_loadVar_mid (P := Tryd.prog) w g 0 ty (cells5 c v) d hb.range5 hu hd hT
  simp only [results, h]
  rw [Array.getD_eq_getD_getElem?] at hp hq
  simp [Sem.run_bind, hp, hq, Result.andThen, hl, asAddr, vbl_cells]
set_option maxHeartbeats 1600000 in
theorem readR_any (v : Value) (bs : List Nat) (w : World) (h : Rd w w.heap.size v (bs.map vb)) (hb : Bytes bs) (hl : bs.length ≤ 1000000) :
    Calls Tryd.prog 20 #[v] w fun e w' => ∃ g u, e = .returned (.pointer (some ⟨g, 0, none⟩)) ∧ WR w' w.heap.size g u bs 0 0 ∧ w.heap.size ≤ g ∧ Grew w w' := by
  have HC := Lib.hid (clone_any v bs w h (by omega))
  obtain ⟨A, n, c, rfl, hn, hc⟩ := h.form
  clear h hn
  go_enter Tryd.func20, Tryd.ntmps20
  go_wp2_with fail
  refine HC.out.mono ?_
  rintro e w2 ⟨v2, rfl, k1, k2⟩
  obtain ⟨A2, n2, c2, rfl, -⟩ := k1.slice
  have hs := k2.size
  go_wp2_with fail
  go_ret
  exact ⟨_, _, rfl, ⟨Box.new w2 73 _, k1.alloc _, hb, hl, Nat.zero_le _⟩, hs, k2.alloc _⟩
theorem uP_rest {bs : List Nat} {n : Nat} {t : List Nat} (h : uP 0 0 bs = .inr (n, t)) : t.length ≤ bs.length ∧ ∀ x ∈ t, x ∈ bs := by
  obtain ⟨k, _, rfl⟩ := uP_suffix _ _ _ _ _ h
  exact ⟨by rw [List.length_drop]; omega, fun x hx => List.mem_of_mem_drop hx⟩
theorem sRaw_sub (bs : List Nat) : (sRaw (.inr bs)).1.length ≤ bs.length ∧ ∀ x ∈ (sRaw (.inr bs)).1, x ∈ bs := by
  cases h : uP 0 0 bs with
  | inl e => rw [sRaw_err (sU_err h)]; simp
  | inr p =>
    obtain ⟨n, t⟩ := p
    obtain ⟨h1, h2⟩ := uP_rest h
    by_cases hl : t.length < n
    · rw [sRaw_more (sU_ok h) hl]; simp
    · rw [sRaw_ok (sU_ok h) hl]
      exact ⟨by simp only [List.length_take]; omega, fun x hx => h2 x (List.mem_of_mem_take hx)⟩
theorem sRaw_len {bs : List Nat} {r : List Nat × RSt} (h : sRaw (.inr bs) = r) : r.1.length ≤ bs.length := by rw [← h]; exact (sRaw_sub bs).1
theorem sRaw_bytes {bs : List Nat} {r : List Nat × RSt} (h : sRaw (.inr bs) = r) (hb : Bytes bs) : Bytes r.1 := by rw [← h]; exact fun x hx => hb x ((sRaw_sub bs).2 x hx)
theorem sRaw_len' (bs : List Nat) (a : Nat) (er : Int) : (sRaw (stP bs a er)).1.length ≤ bs.length := by
  by_cases h : er = 0
  · rw [h, stP_ok]
    have := (sRaw_sub (bs.drop a)).1
    rw [List.length_drop] at this
    omega
  · rw [stP_err bs a h, sRaw_err (sU_inl er)]; simp
theorem sRaw_bytes' (bs : List Nat) (a : Nat) (er : Int) (hb : Bytes bs) : Bytes (sRaw (stP bs a er)).1 := by
  by_cases h : er = 0
  · rw [h, stP_ok]
    exact fun x hx => hb x (List.mem_of_mem_drop ((sRaw_sub (bs.drop a)).2 x hx))
  · rw [stP_err bs a h, sRaw_err (sU_inl er)]; exact fun x hx => by simp at hx
theorem ld5v' {ops : Array Oper} {rest : List Oper} {o : Oper} {a : Act} {w : World} {Q : Exit → Act → World → Prop} (T : TypeId) (hT : (Tryd.prog.info? T).map (·.size) = some 5) {d : TypeDesc} (hu : Tryd.prog.underlying T = some d) (hd : d.isRow = true) (x : Operand) (g : Nat) (c : Clm) (v : Value) (t : TypeId) (hgd : o.guard = none) (ho : o.op = .load T x)
    (hx : a.eval x = .pointer (some ⟨g, 0, none⟩)) (hb : Box w g t (cells5 c v).toArray)
    (h : wpList Tryd.prog ops Q rest (a.put o.dst (.agg #[.int .i64 c.1, .int .i64 c.2.1, .int .i64 c.2.2.1, .int .i64 c.2.2.2, v])) w) : wpList Tryd.prog ops Q (o :: rest) a w := ld5 T hT hu hd x g c v t hgd ho hx hb h
/- what Decode returns -/
def BDecPost (w : World) (o : Sum Int (Clm × List Clm)) (e : Ending) (w' : World) : Prop :=
  Grew w w' ∧
  match o with
  | .inl er => e = .returned (.tuple #[vbl zc (.slice none 0 0), .int .i64 er])
  | .inr (x, l) => ∃ v, e = .returned (.tuple #[vbl x v, .int .i64 0]) ∧ MineC w' w.heap.size v l
theorem decB_end {bs : List Nat} {r : List Nat × RSt} {u : Nat × RSt} (h1 : sRaw (.inr bs) = r) (h2 : sU r.2 = u) (h : sEnd u.2 ≠ 0) : decB bs = .inl 2 := by
  unfold decB; simp only [h1, h2]; rw [if_pos h]
theorem decB_sum {bs : List Nat} {r : List Nat × RSt} {u : Nat × RSt} (h1 : sRaw (.inr bs) = r) (h2 : sU r.2 = u) (h : sEnd u.2 = 0) (hs : u.1 ≠ hashB blockL r.1) : decB bs = .inl 11 := by
  unfold decB; simp only [h1, h2]; rw [if_neg (by simp [h]), if_pos hs]
theorem decB_in {bs : List Nat} {r : List Nat × RSt} {u : Nat × RSt} (h1 : sRaw (.inr bs) = r) (h2 : sU r.2 = u) (h : sEnd u.2 = 0) (hs : u.1 = hashB blockL r.1) : decB bs = inB r.1 := by
  unfold decB; simp only [h1, h2]; rw [if_neg (by simp [h]), if_neg (by simp [hs])]
section
variable {core : List Nat} {a b c d : Int × RSt} {r : List Nat × RSt} (h1 : sI (.inr core) = a) (h2 : sI a.2 = b) (h3 : sI b.2 = c) (h4 : sI c.2 = d) (h5 : sRaw d.2 = r)
include h1 h2 h3 h4 h5
theorem inB_end (h : sEnd r.2 ≠ 0) : inB core = .inl 2 := by
  unfold inB; simp only [h1, h2, h3, h4, h5]; rw [if_pos h]
theorem inB_none (h : sEnd r.2 = 0) (hd : refDecode r.1 = none) : inB core = .inl 2 := by
  unfold inB; simp only [h1, h2, h3, h4, h5]; rw [if_neg (by simp [h])]; simp only [hd]
theorem inB_bad {l : List Clm} (h : sEnd r.2 = 0) (hd : refDecode r.1 = some l) (hk : ¬ okB (a.1, b.1, c.1, d.1)) : inB core = .inl 1 := by
  unfold inB; simp only [h1, h2, h3, h4, h5]; rw [if_neg (by simp [h])]; simp only [hd]; rw [if_neg hk]
theorem inB_ok {l : List Clm} (h : sEnd r.2 = 0) (hd : refDecode r.1 = some l) (hk : okB (a.1, b.1, c.1, d.1)) : inB core = .inr ((a.1, b.1, c.1, d.1), l) := by
  unfold inB; simp only [h1, h2, h3, h4, h5]; rw [if_neg (by simp [h])]; simp only [hd]; rw [if_pos hk]
end
end Go.Proofs.YtaeahodgeopfbaaDoor
namespace Go.Proofs.YtaeahodgeopfbaaDoor
open Go.RowKit Pl

set_option maxHeartbeats 12800000 in
set_option maxRecDepth 100000 in
theorem bdecode_any (v : Value) (bs : List Nat) (w : World) (h : Rd w w.heap.size v (bs.map vb)) (hb : Bytes bs) (hl : bs.length ≤ 100000) (ht : Tab w w.heap.size) (hp : PTab w w.heap.size) :
    Calls Tryd.prog 7 #[v] w (BDecPost w (decB bs)) := by
  have HG := Lib.hid ((Grew.refl w).alloc (.cells (cells5 zc (.slice none 0 0)).toArray 25))
  have HB := Lib.hid (Box.new w 25 (cells5 zc (.slice none 0 0)).toArray)
  have hsz : (w.alloc (.cells (cells5 zc (.slice none 0 0)).toArray 25)).heap.size = w.heap.size + 1 := by simp
  have HRd := Lib.hid (readR_any v bs (w.alloc (.cells (cells5 zc (.slice none 0 0)).toArray 25)) ((h.grew (Nat.le_refl _) HG.out).more (by omega)) hb (by omega))
  have HT := Lib.hid ht
  have HP := Lib.hid hp
  obtain ⟨A, n, c, rfl, hn, hc⟩ := h.form
  clear h hn ht hp
  obtain ⟨o, ho⟩ : ∃ o, o = decB bs := ⟨_, rfl⟩
  rw [← ho]
  have HO := Lib.hid ho
  clear ho
  go_enter Tryd.func7, Tryd.ntmps7
  go_upto_region 1 with fail
  change Code.wp _ _ _ _ (w.alloc (.cells (cells5 zc (.slice none 0 0)).toArray 25))
  generalize w.alloc (.cells (cells5 zc (.slice none 0 0)).toArray 25) = w1 at *
  go_wp2_with fail
  refine HRd.out.mono ?_
  rintro e wA ⟨gA, uA, rfl, WA, hgA, kA⟩
  have hGA := HG.out.trans kA
  have bA := HB.out.grew kA
  have hgAl := WA.box.lt
  have HRw := Lib.hid (rawR_any gA _ uA bs 0 0 wA WA)
  rw [show stP bs 0 0 = .inr bs from rfl] at HRw
  obtain ⟨r, hr⟩ : ∃ r, sRaw (.inr bs) = r := ⟨_, rfl⟩
  rw [hr] at HRw
  have HR := Lib.hid hr
  clear HRd HG HB WA kA hr
  go_wp2_with fail
  refine HRw.out.mono ?_
  rintro e wB ⟨uB, rfl, mB, kB, aB, eB, WB, sB⟩
  obtain ⟨AB, nB, cB, rfl, -⟩ := mB.slice
  have hGB : Grew w wB := Keeps.then_ hGA kB (fun i hi e => by omega)
  have bB := bA.keep kB (by omega)
  have hsB := kB.size
  have HUi := Lib.hid (uintR_any gA _ uA bs aB eB wB WB)
  rw [sB] at HUi
  obtain ⟨u, hu⟩ : ∃ u, sU r.2 = u := ⟨_, rfl⟩
  rw [hu] at HUi
  have HU := Lib.hid hu
  have hcoreL : r.1.length ≤ bs.length := sRaw_len HR.out
  have hcoreB : Bytes r.1 := sRaw_bytes HR.out hb
  clear HRw WB kB sB bA hGA hu
  go_wp2_with fail
  refine HUi.out.mono ?_
  rintro e wC ⟨rfl, kC, aC, eC, WC, sC⟩
  have hGC : Grew w wC := Keeps.then_ hGB kC (fun i hi e => by omega)
  have bC := bB.keep kC (by omega)
  have mC := mB.keep kC (fun k e e2 => by have := (mB.lt k e).1; omega)
  have hsC := kC.size
  have HEn := Lib.hid (endR_any gA _ uA bs aC eC wC WC)
  rw [sC] at HEn
  clear HUi WC kC sC bB hGB mB
  go_wp2_with fail
  refine HEn.out.mono ?_
  rintro e wD ⟨rfl, nD, hD⟩
  have gD : Grew wC wD := by rw [hD]; exact (Grew.refl wC).drewN nD
  have hGD := hGC.trans gD
  have bD := bC.grew gD
  have mD := mC.grew gD
  have hsD := gD.size
  clear HEn hD gD bC hGC mC
  by_cases hE : sEnd u.2 ≠ 0
  · have hoo := HO.out
    rw [decB_end HR.out HU.out hE] at hoo
    have HOO := Lib.hid hoo
    have t0 : (sEnd u.2 != 0) = true := by simpa using hE
    clear hoo hE HO
    generalize sEnd u.2 = es at *
    go_wp2_with (refine st5 25 infoB (.tmp 2) (.tmp 21) w.heap.size zc zc (.slice none 0 0) (.slice none 0 0) 25 rfl rfl rfl rfl rfl bD ?_; intro wz hbz hkz)
    have hGz : Grew w wz := Keeps.then_ hGD hkz (fun i hi e => by omega)
    exact bodyPost_ret (v := .tuple #[vbl zc (.slice none 0 0), .int .i64 2]) (results_cell5_2 rfl rfl rfl infoB Tryd.underlying25 rfl hbz) rfl (by rw [HOO.out]; exact ⟨hGz, rfl⟩)
  have hE0 : sEnd u.2 = 0 := by simpa using hE
  have t0 : (sEnd u.2 != 0) = false := by rw [hE0]; rfl
  have HE := Lib.hid hE0
  clear hE hE0
  rw [HE.out]
  have HSu := Lib.hid (sum_any _ r.1 wD mD.rd hcoreB (by omega))
  have hub : u.1 < 18446744073709551616 := by rw [← HU.out]; exact sU_lt _
  obtain ⟨hh, hhd⟩ : ∃ hh, hh = hashB blockL r.1 := ⟨_, rfl⟩
  rw [← hhd] at HSu
  have HH := Lib.hid hhd
  have hhl : hh < 18446744073709551616 := by rw [hhd]; exact hashB_lt _ _
  clear hhd
  go_wp2_with fail
  refine HSu.out.mono ?_
  rintro e wE ⟨rfl, gE⟩
  have hGE := hGD.trans gE
  have bE := bD.grew gE
  have mE := mD.grew gE
  have hsE := gE.size
  clear HSu gE bD hGD mD
  by_cases hS : u.1 ≠ hh
  · have hoo := HO.out
    rw [decB_sum HR.out HU.out HE.out (by rw [← HH.out]; exact hS)] at hoo
    have HOO := Lib.hid hoo
    have t1 : ((u.1 : Int) != (hh : Int)) = true := by rw [bne_iff_ne]; omega
    have t1n : (u.1 != hh) = true := by rw [bne_iff_ne]; omega
    clear hoo hS HO
    generalize u.1 = us at *
    go_wp2_with (refine st5 25 infoB (.tmp 2) (.tmp 26) w.heap.size zc zc (.slice none 0 0) (.slice none 0 0) 25 rfl rfl rfl rfl rfl bE ?_; intro wz hbz hkz)
    have hGz : Grew w wz := Keeps.then_ hGE hkz (fun i hi e => by omega)
    exact bodyPost_ret (v := .tuple #[vbl zc (.slice none 0 0), .int .i64 11]) (results_cell5_2 rfl rfl rfl infoB Tryd.underlying25 rfl hbz) rfl (by rw [HOO.out]; exact ⟨hGz, rfl⟩)
  have hS0 : u.1 = hh := by omega
  have hoo := HO.out
  rw [decB_in HR.out HU.out HE.out (by rw [← HH.out]; exact hS0)] at hoo
  have HOI := Lib.hid hoo
  have t1 : ((u.1 : Int) != (hh : Int)) = false := by rw [hS0]; simp
  have t1n : (u.1 != hh) = false := by rw [hS0]; simp
  clear hoo hS hS0 HO HH HE HU HR t0
  generalize u.1 = us at *
  generalize r.1 = core at *
  have HRd := Lib.hid (readR_any _ core wE mE.rd hcoreB (by omega))
  go_wp2_with fail
  refine HRd.out.mono ?_
  rintro e wF ⟨gF, uF, rfl, WF, hgF, kF⟩
  have hGF := hGE.trans kF
  have bF := bE.grew kF
  have hgFl := WF.box.lt
  have hltE := bE.lt
  clear HRd kF bE hGE mE
  have HII1 := Lib.hid (intR_any gF _ uF core 0 0 wF WF)
  rw [show stP core 0 0 = .inr core from rfl] at HII1
  obtain ⟨pI1, hpI1⟩ : ∃ pI1, sI (.inr core) = pI1 := ⟨_, rfl⟩
  rw [hpI1] at HII1
  have HPI1 := Lib.hid hpI1
  clear hpI1
  go_wp2_with fail
  refine HII1.out.mono ?_
  rintro e wI1 ⟨rfl, kI1, aI1, eI1, WI1, sI1⟩
  have hGI1 : Grew w wI1 := Keeps.then_ hGF kI1 (fun i hi e => by omega)
  have bI1 := bF.keep kI1 (by omega)
  have hsI1 := kI1.size
  clear HII1 kI1 bF hGF WF
  have HII2 := Lib.hid (intR_any gF _ uF core aI1 eI1 wI1 WI1)
  rw [sI1] at HII2
  obtain ⟨pI2, hpI2⟩ : ∃ pI2, sI pI1.2 = pI2 := ⟨_, rfl⟩
  rw [hpI2] at HII2
  have HPI2 := Lib.hid hpI2
  clear hpI2
  go_wp2_with fail
  refine HII2.out.mono ?_
  rintro e wI2 ⟨rfl, kI2, aI2, eI2, WI2, sI2⟩
  have hGI2 : Grew w wI2 := Keeps.then_ hGI1 kI2 (fun i hi e => by omega)
  have bI2 := bI1.keep kI2 (by omega)
  have hsI2 := kI2.size
  clear HII2 kI2 bI1 hGI1 WI1 sI1
  have HII3 := Lib.hid (intR_any gF _ uF core aI2 eI2 wI2 WI2)
  rw [sI2] at HII3
  obtain ⟨pI3, hpI3⟩ : ∃ pI3, sI pI2.2 = pI3 := ⟨_, rfl⟩
  rw [hpI3] at HII3
  have HPI3 := Lib.hid hpI3
  clear hpI3
  go_wp2_with fail
  refine HII3.out.mono ?_
  rintro e wI3 ⟨rfl, kI3, aI3, eI3, WI3, sI3⟩
  have hGI3 : Grew w wI3 := Keeps.then_ hGI2 kI3 (fun i hi e => by omega)
  have bI3 := bI2.keep kI3 (by omega)
  have hsI3 := kI3.size
  clear HII3 kI3 bI2 hGI2 WI2 sI2
  have HII4 := Lib.hid (intR_any gF _ uF core aI3 eI3 wI3 WI3)
  rw [sI3] at HII4
  obtain ⟨pI4, hpI4⟩ : ∃ pI4, sI pI3.2 = pI4 := ⟨_, rfl⟩
  rw [hpI4] at HII4
  have HPI4 := Lib.hid hpI4
  clear hpI4
  go_wp2_with fail
  refine HII4.out.mono ?_
  rintro e wI4 ⟨rfl, kI4, aI4, eI4, WI4, sI4⟩
  have hGI4 : Grew w wI4 := Keeps.then_ hGI3 kI4 (fun i hi e => by omega)
  have bI4 := bI3.keep kI4 (by omega)
  have hsI4 := kI4.size
  clear HII4 kI4 bI3 hGI3 WI3 sI3
  have hltL := bI4.lt
  go_wp2_with (refine st5 25 infoB (.tmp 8) (.tmp 37) wI4.heap.size (pI1.1, pI2.1, pI3.1, pI4.1) zc (.slice none 0 0) (.slice none 0 0) 25 rfl rfl rfl rfl rfl (Box.new wI4 25 (cells5 zc (.slice none 0 0)).toArray) ?_; intro wM b8 kM)
  have hGM : Grew w wM := Keeps.then_ (hGI4.alloc _) kM (fun i hi e => by have := hGI4.size; omega)
  have bM := (bI4.alloc (.cells (cells5 zc (.slice none 0 0)).toArray 25)).keep kM (by omega)
  have gL0 : Grew wI4 (wI4.alloc (.cells (cells5 zc (.slice none 0 0)).toArray 25)) := (Grew.refl wI4).alloc _
  have hgFL := WI4.box.lt
  have WM : WR wM wE.heap.size gF uF core aI4 eI4 := ⟨(WI4.grew gL0).box.keep kM (by omega), (WI4.grew gL0).row.keep kM (fun k e e2 => by have := (WI4.row.lt k e).2; omega), WI4.bytes, WI4.small, WI4.here⟩
  have hsM := kM.size
  rw [World.size_alloc] at hsM
  have HRw := Lib.hid (rawR_any gF _ uF core aI4 eI4 wM WM)
  rw [sI4] at HRw
  obtain ⟨q, hq⟩ : ∃ q, sRaw pI4.2 = q := ⟨_, rfl⟩
  rw [hq] at HRw
  have HQ := Lib.hid hq
  have hqB : Bytes q.1 := by rw [← hq, ← sI4]; exact sRaw_bytes' _ _ _ hcoreB
  have hqL : q.1.length ≤ core.length := by rw [← hq, ← sI4]; exact sRaw_len' _ _ _
  clear hq WI4 gL0 kM bI4 hGI4 sI4 WM
  refine HRw.out.mono ?_
  rintro e wN ⟨uN, rfl, mN, kN, aN, eN, WN, sN⟩
  obtain ⟨AN, nN, cN, rfl, -⟩ := mN.slice
  have hGN : Grew w wN := Keeps.then_ hGM kN (fun i hi e => by omega)
  have bN := bM.keep kN (by omega)
  have b8N := b8.keep kN (by omega)
  have hsN := kN.size
  have HEn := Lib.hid (endR_any gF _ uF core aN eN wN WN)
  rw [sN] at HEn
  clear HRw WN kN sN bM hGM b8
  go_wp2_with fail
  refine HEn.out.mono ?_
  rintro e wO ⟨rfl, nO, hOw⟩
  have gO : Grew wN wO := by rw [hOw]; exact (Grew.refl wN).drewN nO
  have hGO := hGN.trans gO
  have bO := bN.grew gO
  have b8O := b8N.grew gO
  have mO := mN.grew gO
  have hsO := gO.size
  clear HEn hOw gO bN hGN mN b8N
  by_cases hE : sEnd q.2 ≠ 0
  · have hoo := HOI.out
    rw [inB_end HPI1.out HPI2.out HPI3.out HPI4.out HQ.out hE] at hoo
    have HOO := Lib.hid hoo
    have t0 : (sEnd q.2 != 0) = true := by simpa using hE
    clear hoo hE HOI
    generalize sEnd q.2 = es at *
    go_wp2_with (refine st5 25 infoB (.tmp 2) (.tmp 43) w.heap.size zc zc (.slice none 0 0) (.slice none 0 0) 25 rfl rfl rfl rfl rfl bO ?_; intro wz hbz hkz)
    have hGz : Grew w wz := Keeps.then_ hGO hkz (fun i hi e => by omega)
    exact bodyPost_ret (v := .tuple #[vbl zc (.slice none 0 0), .int .i64 2]) (results_cell5_2 rfl rfl rfl infoB Tryd.underlying25 rfl hbz) rfl (by rw [HOO.out]; exact ⟨hGz, rfl⟩)
  have hE0 : sEnd q.2 = 0 := by simpa using hE
  have HE := Lib.hid hE0
  clear hE hE0
  rw [HE.out]
  have HDe := Lib.hid (decode_any _ q.1 wO mO.rd hqB (by omega) (HT.out.on hGO))
  rw [decode_eq_ref _ hqB] at HDe
  cases hdec : refDecode q.1 with
  | none =>
    rw [hdec] at HDe
    have hoo := HOI.out
    rw [inB_none HPI1.out HPI2.out HPI3.out HPI4.out HQ.out HE.out hdec] at hoo
    have HOO := Lib.hid hoo
    clear hoo HOI hdec
    go_wp2_with fail
    refine HDe.out.mono ?_
    rintro e wQ ⟨gQ, rfl⟩
    have hGQ := hGO.trans gQ
    have bQ := bO.grew gQ
    go_wp2_with (refine st5 25 infoB (.tmp 2) (.tmp 51) w.heap.size zc zc (.slice none 0 0) (.slice none 0 0) 25 rfl rfl rfl rfl rfl bQ ?_; intro wz hbz hkz)
    have hGz : Grew w wz := Keeps.then_ hGQ hkz (fun i hi e => by omega)
    exact bodyPost_ret (v := .tuple #[vbl zc (.slice none 0 0), .int .i64 2]) (results_cell5_2 rfl rfl rfl infoB Tryd.underlying25 rfl hbz) rfl (by rw [HOO.out]; exact ⟨hGz, rfl⟩)
  | some l =>
    rw [hdec] at HDe
    have HDC := Lib.hid hdec
    clear hdec
    go_wp2_with fail
    refine HDe.out.mono ?_
    rintro e wQ ⟨gQ, vQ, rfl, mQ⟩
    obtain ⟨AQ, nQ, cQ, rfl, -⟩ := mQ.slice
    have hGQ := hGO.trans gQ
    have bQ := bO.grew gQ
    have b8Q := b8O.grew gQ
    have hlt8 := b8O.lt
    have hsQ := gQ.size
    have hVa := fun w' (g : Grew w w') => valid_any (pI1.1, pI2.1, pI3.1, pI4.1) AQ nQ cQ w' (HP.out.on g)
    unfold vbl at hVa
    have HVa := Lib.hid hVa
    clear HDe gQ bO b8O hGO mO hVa
    go_wp2_with (first | (refine stv5 (.tmp 53) (.tmp 52) wI4.heap.size AQ nQ cQ (pI1.1, pI2.1, pI3.1, pI4.1) (.slice none 0 0) 25 rfl rfl rfl rfl b8Q ?_; intro wR b8R kR) | (refine ld5v' 25 infoB Tryd.underlying25 rfl (.tmp 8) wI4.heap.size (pI1.1, pI2.1, pI3.1, pI4.1) (.slice AQ nQ cQ) 25 rfl rfl rfl b8R ?_))
    have hGR : Grew w wR := Keeps.then_ hGQ kR (fun i hi e => by omega)
    have bR := bQ.keep kR (by omega)
    have mR := mQ.keep kR (fun k e e2 => mQ.ne_box e b8Q (by decide) e2)
    have hsR := kR.size
    clear kR b8Q bQ hGQ mQ
    refine (HVa.out wR hGR).mono ?_
    rintro e wS ⟨rfl, gS⟩
    have hGS := hGR.trans gS
    have bS := bR.grew gS
    have b8S := b8R.grew gS
    have mS := mR.grew gS
    have hlt8S := b8R.lt
    clear HVa gS b8R bR hGR mR
    by_cases hok : okB (pI1.1, pI2.1, pI3.1, pI4.1)
    · have hoo := HOI.out
      rw [inB_ok HPI1.out HPI2.out HPI3.out HPI4.out HQ.out HE.out HDC.out hok] at hoo
      have HOO := Lib.hid hoo
      rw [decide_eq_true hok]
      clear hoo HOI hok
      go_wp2_with (first | (refine ld5v' 25 infoB Tryd.underlying25 rfl (.tmp 8) wI4.heap.size (pI1.1, pI2.1, pI3.1, pI4.1) (.slice AQ nQ cQ) 25 rfl rfl rfl b8S ?_) | (refine st5 25 infoB (.tmp 2) (.tmp 58) w.heap.size (pI1.1, pI2.1, pI3.1, pI4.1) zc (.slice AQ nQ cQ) (.slice none 0 0) 25 rfl rfl rfl rfl rfl bS ?_; intro wz hbz hkz))
      have hGz : Grew w wz := Keeps.then_ hGS hkz (fun i hi e => by omega)
      have mz := mS.keep hkz (fun k e e2 => mS.ne_box e bS (by decide) e2)
      exact bodyPost_ret (v := .tuple #[vbl (pI1.1, pI2.1, pI3.1, pI4.1) (.slice AQ nQ cQ), .int .i64 0]) (results_cell5_2 rfl rfl rfl infoB Tryd.underlying25 rfl hbz) rfl (by rw [HOO.out]; exact ⟨hGz, _, rfl, mz.base_le (by omega)⟩)
    · have hoo := HOI.out
      rw [inB_bad HPI1.out HPI2.out HPI3.out HPI4.out HQ.out HE.out HDC.out hok] at hoo
      have HOO := Lib.hid hoo
      rw [decide_eq_false hok]
      clear hoo HOI hok
      go_wp2_with (refine st5 25 infoB (.tmp 2) (.tmp 57) w.heap.size zc zc (.slice none 0 0) (.slice none 0 0) 25 rfl rfl rfl rfl rfl bS ?_; intro wz hbz hkz)
      have hGz : Grew w wz := Keeps.then_ hGS hkz (fun i hi e => by omega)
      exact bodyPost_ret (v := .tuple #[vbl zc (.slice none 0 0), .int .i64 1]) (results_cell5_2 rfl rfl rfl infoB Tryd.underlying25 rfl hbz) rfl (by rw [HOO.out]; exact ⟨hGz, rfl⟩)
end Go.Proofs.YtaeahodgeopfbaaDoor
