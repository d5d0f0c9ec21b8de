/- A claim in a block of its own: read and written whole. codec.Encode: the bytes of a list of claims, or an error. -/
import Derived.Test.YtgkmfblmkfclbaaGreatDoorBlockSoundP10
import Derived.Deep.MidRow
namespace Go.Proofs.YtgkmfblmkfclbaaGreatDoor
open Go.RowKit Pl

theorem info4 : (Tryz.prog.info? 82).map (·.size) = some 4 := by kernel_rfl
theorem Box.there4 {w : World} {g : Nat} {t : TypeId} {d : Clm} (h : Box w g t (cells4 d).toArray) : w.there g 0 4 := by
  intro j hj
  refine ⟨?_, ?_⟩
  · rw [Nat.zero_add, h.cell]
    simp [cells4, hj]
  · rw [Nat.zero_add]; exact h.frozen j
theorem setCells4 (w : World) (g : Nat) (c : Clm) : w.setCells g 0 (cells4 c) = put4 w g c := rfl
section
variable {ops : Array Oper} {rest : List Oper} {o : Oper} {a : Act} {w : World} {Q : Exit → Act → World → Prop}
theorem st4 (x y : Operand) (g : Nat) (c d : Clm) (t : TypeId) (hgd : o.guard = none) (ho : o.op = .store 82 x y)
    (hx : a.eval x = .pointer (some ⟨g, 0, none⟩)) (hy : a.eval y = .agg (cells4 c).toArray) (hb : Box w g t (cells4 d).toArray)
    (h : ∀ w', Box w' g t (cells4 c).toArray → Keeps (fun i => i = g) w w' → wpList Tryz.prog ops Q rest (a.put o.dst undef) w') : wpList Tryz.prog ops Q (o :: rest) a w := by
  refine wpList_store_mid hgd 82 x y ho g 0 (cells4 c).toArray hx hy hb.there4 info4 (by simp [cells4, Value.oneCell']) ?_
  exact h _ (hb.put4 c) (put4_keeps w g c)
theorem st4v (x y : Operand) (g : Nat) (f0 f1 f2 f3 : Int) (d : Clm) (t : TypeId) (hgd : o.guard = none) (ho : o.op = .store 82 x y)
    (hx : a.eval x = .pointer (some ⟨g, 0, none⟩)) (hy : a.eval y = .agg #[.int .i64 f0, .int .i64 f1, .int .i64 f2, .int .i64 f3]) (hb : Box w g t (cells4 d).toArray)
    (h : ∀ w' c, Box w' g t (cells4 c).toArray → Keeps (fun i => i = g) w w' → wpList Tryz.prog ops Q rest (a.put o.dst undef) w') : wpList Tryz.prog ops Q (o :: rest) a w :=
  st4 x y g (f0, f1, f2, f3) d t hgd ho hx hy hb fun w' hb' hk => h w' _ hb' hk
/- one of its numbers -/
theorem set4_some (d : Clm) (k : Nat) (hk : k < 4) (n : Int) : ∃ d' : Clm, (cells4 d).toArray.setIfInBounds k (.int .i64 n) = (cells4 d').toArray := by
  have : k = 0 ∨ k = 1 ∨ k = 2 ∨ k = 3 := by omega
  rcases this with rfl | rfl | rfl | rfl
  · exact ⟨(n, d.2.1, d.2.2.1, d.2.2.2), rfl⟩
  · exact ⟨(d.1, n, d.2.2.1, d.2.2.2), rfl⟩
  · exact ⟨(d.1, d.2.1, n, d.2.2.2), rfl⟩
  · exact ⟨(d.1, d.2.1, d.2.2.1, n), rfl⟩
theorem get4_some (d : Clm) (k : Nat) (hk : k < 4) : ∃ n : Int, (cells4 d).toArray[k]? = some (.int .i64 n) := by
  have : k = 0 ∨ k = 1 ∨ k = 2 ∨ k = 3 := by omega
  rcases this with rfl | rfl | rfl | rfl <;> exact ⟨_, rfl⟩
theorem st1 (x y : Operand) (g k : Nat) (hk : k < 4) (n : Int) (d : Clm) (t : TypeId) (hgd : o.guard = none) (ho : o.op = .store 3 x y)
    (hx : a.eval x = .pointer (some ⟨g, k, none⟩)) (hy : a.eval y = .int .i64 n) (hb : Box w g t (cells4 d).toArray)
    (h : ∀ w' c, Box w' g t (cells4 c).toArray → Keeps (fun i => i = g) w w' → wpList Tryz.prog ops Q rest (a.put o.dst undef) w') : wpList Tryz.prog ops Q (o :: rest) a w := by
  obtain ⟨u, hu⟩ := get4_some d k hk
  have hc := (hb.cell k).trans hu
  have hf := hb.frozen k
  obtain ⟨d', hd'⟩ := set4_some d k hk n
  have hb' := hb.set_ k (.int .i64 n)
  rw [hd'] at hb'
  have hk' : Keeps (fun i => i = g) w (w.setCell ⟨g, k, none⟩ (.int .i64 n)) := (Keeps.refl (fun i => i = g) w).setCell (p := ⟨g, k, none⟩) (.inl rfl) _
  refine wpList_plain hgd fun K hK => ?_
  unfold Oper.wp execOp
  simp only [ho, hx, hy]
  go_simp
  exact hK _ _ (h _ d' hb' hk')
theorem ld4 (x : Operand) (g : Nat) (c : Clm) (t : TypeId) (hgd : o.guard = none) (ho : o.op = .load 82 x)
    (hx : a.eval x = .pointer (some ⟨g, 0, none⟩)) (hb : Box w g t (cells4 c).toArray)
    (h : wpList Tryz.prog ops Q rest (a.put o.dst (.agg (cells4 c).toArray)) w) : wpList Tryz.prog ops Q (o :: rest) a w := by
  refine wpList_load_mid hgd 82 x ho g 0 hx (cells4 c) _ (fun j v hv => ?_) Tryz.underlying82 rfl info4 h
  rw [Nat.zero_add, hb.cell]
  simpa using hv
end
end Go.Proofs.YtgkmfblmkfclbaaGreatDoor
namespace Go.Proofs.YtgkmfblmkfclbaaGreatDoor
open Go.RowKit Pl

def EncPost (cs : List Clm) (w : World) (e : Ending) (w' : World) : Prop :=
  Grew w w' ∧ ((encE cs = 0 ∧ ∃ v, e = .returned (.tuple #[v, .int .i64 0]) ∧ Mine w' w.heap.size 5 v ((pack (cbits cs)).map vb)) ∨
    (encE cs ≠ 0 ∧ e = .returned (.tuple #[.slice none 0 0, .int .i64 (encE cs)])))
theorem encE_long {cs : List Clm} (h : 4096 < cs.length) : encE cs = 4 := by unfold encE; rw [if_pos h]
theorem encE_bad {cs : List Clm} (h : cs.length ≤ 4096) {c : Clm} (hc : c ∈ cs) (hn : ¬ okC c) : encE cs = 5 := by
  unfold encE
  rw [if_neg (by omega), if_neg (fun h => hn (h c hc))]
theorem encE_ok {cs : List Clm} (h : cs.length ≤ 4096) (hn : ∀ c ∈ cs, okC c) : encE cs = 0 := by
  unfold encE
  rw [if_neg (by omega), if_pos hn]
theorem getD_mem {cs : List Clm} {j : Nat} (hj : j < cs.length) : cs.getD j zc ∈ cs := by
  rw [List.getD_eq_getElem?_getD, List.getElem?_eq_getElem hj]; exact List.getElem_mem hj
theorem take_okC {cs : List Clm} {j : Nat} (h : ∀ c ∈ cs.take j, okC c) (hj : j < cs.length) (hc : okC (cs.getD j zc)) : ∀ c ∈ cs.take (j + 1), okC c := by
  rw [List.take_add_one, List.getElem?_eq_getElem hj]
  rw [List.getD_eq_getElem?_getD, List.getElem?_eq_getElem hj] at hc
  intro c h1
  rcases List.mem_append.1 h1 with h1 | h1
  · exact h c h1
  · obtain rfl : c = cs[j] := by simpa using h1
    exact hc

set_option maxHeartbeats 12800000 in
set_option maxRecDepth 100000 in
theorem encode_any (v : Value) (cs : List Clm) (w : World) (h : RdC w w.heap.size v cs) (hl : cs.length ≤ 1000000000) (ht : Tab w w.heap.size) :
    Calls Tryz.prog 34 #[v] w (EncPost cs w) := by
  obtain ⟨A, n, c, rfl, hn, hc⟩ := h.form
  have hnl : n ≤ 1000000000 := by omega
  have HN := Lib.hid hn
  have H := Lib.hid h
  have HT := Lib.hid ht
  clear h ht
  by_cases hlong : 4096 < n
  · have hE := encE_long (cs := cs) (by omega)
    have HE := Lib.hid hE
    clear hE hn
    have t0 : (4096 : Int) < (n : Int) := by omega
    go_enter Tryz.func34, Tryz.ntmps34
    go_wp2_with fail
    go_ret2
    exact ⟨Grew.refl w, .inr ⟨by rw [HE.out]; decide, by rw [HE.out]; rfl⟩⟩
  have hshort : cs.length ≤ 4096 := by omega
  have hn4 : n ≤ 4096 := by omega
  have t0 : (n : Int) ≤ 4096 := by omega
  have HS := Lib.hid hshort
  clear hn hlong hshort
  go_enter Tryz.func34, Tryz.ntmps34
  go_wp2_with fail
  go_loopw [16] (fun i wr => ∃ (j : Nat), j ≤ n ∧ i = .int .i64 j ∧ Grew w wr ∧ ∀ c ∈ cs.take j, okC c) (fun i _ => n - (intOf i).toNat)
  case atStart => exact ⟨0, by omega, rfl, Grew.refl w, by simp⟩
  case round =>
    obtain ⟨j, hj, rfl, hGr, hall⟩ := hrel
    have HALL := Lib.hid hall
    clear hall
    by_cases hlt : j < n
    · have hjl : j < cs.length := by rw [← HN.out]; exact hlt
      obtain ⟨b, o, rfl, hb, e0, e1, e2, e3⟩ := (H.out.grew (Nat.le_refl _) hGr).four hjl
      have HJ := Lib.hid hjl
      have HEc := fun w' : World => encodable_any (cs.getD j zc) w'
      unfold vc cells4 at HEc
      have HEC := Lib.hid HEc
      clear hjl HEc
      have hsz := hGr.size
      by_cases hok : okC (cs.getD j zc)
      · have hD : decide (okC (cs.getD j zc)) = true := decide_eq_true hok
        have HOK := Lib.hid (take_okC HALL.out HJ.out hok)
        have HD := Lib.hid hD
        clear hok hD
        generalize cs.getD j zc = x at *
        go_wp2_with fail
        refine (HEC.out _).mono ?_
        rintro e w2 ⟨rfl, k⟩
        rw [HD.out]
        have hG6 := (hGr.alloc _).trans k
        clear k
        go_wp2_with fail
        go_roundw
        case rel => exact ⟨j + 1, by omega, by go_num, hG6, HOK.out⟩
        case measure => simp [intOf]; omega
      · have hD : decide (okC (cs.getD j zc)) = false := decide_eq_false hok
        have hE := encE_bad HS.out (getD_mem HJ.out) hok
        have HE := Lib.hid hE
        have HD := Lib.hid hD
        clear hok hD hE
        generalize cs.getD j zc = x at *
        go_wp2_with fail
        refine (HEC.out _).mono ?_
        rintro e w2 ⟨rfl, k⟩
        rw [HD.out]
        have hG6 := (hGr.alloc _).trans k
        clear k
        go_wp2_with fail
        go_ret2
        exact ⟨hG6, .inr ⟨by rw [HE.out]; decide, by rw [HE.out]; rfl⟩⟩
    · have hok : ∀ c ∈ cs, okC c := by
        have := HALL.out
        rwa [List.take_of_length_le (by rw [← HN.out]; omega)] at this
      have hE := encE_ok HS.out hok
      have HE := Lib.hid hE
      have hsz := hGr.size
      have hb1 : BW (wr.alloc (.cells #[.slice none 0 0, .int .i64 0] 113)) w.heap.size wr.heap.size (.slice none 0 0) [] := ⟨Box.new wr _ _, Mine.nil _ _ _⟩
      have HW := Lib.hid (write_any wr.heap.size w.heap.size _ [] (n : Nat) _ hb1 hsz (HT.out.grew (hGr.alloc _)) (by simp) (by simp; omega) (by unfold I64; omega))
      have HB1 := Lib.hid hb1
      clear hE hb1 hok
      go_wp2_with fail
      refine HW.out.mono ?_
      rintro e w2 ⟨rfl, v2, k1, k2, k3⟩
      have hG2 : Grew w w2 := k2.grew_of (hGr.alloc _) HB1.out hsz
      have hlt6 : wr.heap.size < w2.heap.size := k1.1.lt
      have hsz2 := hG2.size
      clear k2 k3 HW HB1
      obtain ⟨g6, hg6⟩ : ∃ g6, g6 = wr.heap.size := ⟨_, rfl⟩
      rw [← hg6] at k1 hlt6 hsz ⊢
      clear hg6 hGr
      go_wp2_with fail
      go_loopw [29] (fun i wr => ∃ (j : Nat) (v' : Value), j ≤ n ∧ i = .int .i64 j ∧ BW wr w.heap.size g6 v' (code n ++ codes ((cnums zc zc cs).take (4 * j))) ∧
          Box wr w2.heap.size 82 (cells4 (q1 cs j)).toArray ∧ Box wr (w2.heap.size + 1) 82 (cells4 (q2 cs j)).toArray ∧ Grew w wr) (fun i _ => n - (intOf i).toNat)
      case atStart =>
        refine ⟨0, v2, by omega, rfl, ?_, (Box.new w2 _ _).alloc _, ?_, (hG2.alloc _).alloc _⟩
        · have : BW w2 w.heap.size g6 v2 (code n ++ codes ((cnums zc zc cs).take (4 * 0))) := by simpa [codes] using k1
          exact ⟨(this.1.alloc _).alloc _, (this.2.alloc _).alloc _⟩
        · have := Box.new (w2.alloc (.cells #[.int .i64 0, .int .i64 0, .int .i64 0, .int .i64 0] 82)) 82 (cells4 zc).toArray
          rw [World.size_alloc] at this
          exact this
      case round =>
        clear k1 hG2
        obtain ⟨j, v', hj, rfl, hB, hb7, hb8, hG⟩ := hrel
        by_cases hlt : j < n
        · have hjl : j < cs.length := by rw [← HN.out]; exact hlt
          obtain ⟨b, o, rfl, hb, e0, e1, e2, e3⟩ := (H.out.grew (Nat.le_refl _) hG).four hjl
          have hct := cnums_take cs j hjl
          have hlen : (code n ++ codes ((cnums zc zc cs).take (4 * j))).length < 1099511400000 := by
            have h1 := code_len_le n
            have h2 := codes_len ((cnums zc zc cs).take (4 * j))
            have h3 : ((cnums zc zc cs).take (4 * j)).length ≤ 4 * j := List.length_take_le _ _
            rw [List.length_append]; omega
          have hss : code n ++ codes ((cnums zc zc cs).take (4 * (j + 1))) = code n ++ codes ((cnums zc zc cs).take (4 * j)) ++ code (n0 (q2 cs j) (q1 cs j) (cs.getD j zc)) ++ code (n1 (q1 cs j) (cs.getD j zc)) ++ code (n2 (q1 cs j) (cs.getD j zc)) ++ code (n3 (q1 cs j) (cs.getD j zc)) := by
            rw [hct, codes_c4]
          have HSS := Lib.hid hss
          have hq1 := q1_succ cs j
          have hq2 := q2_succ cs j
          have HQ1 := Lib.hid hq1
          have HQ2 := Lib.hid hq2
          clear hq1 hq2 hct hss hjl
          generalize q1 cs j = y at *
          generalize q2 cs j = z at *
          generalize cs.getD j zc = x at *
          generalize code n ++ codes ((cnums zc zc cs).take (4 * j)) = s at *
          have hsz5 := hG.size
          have hb10 : Box (wr.alloc (.cells #[.int .i64 x.1, .int .i64 x.2.1, .int .i64 x.2.2.1, .int .i64 x.2.2.2] 82)) wr.heap.size 82 (cells4 x).toArray := Box.new wr 82 _
          have hb70 : Box (wr.alloc (.cells #[.int .i64 x.1, .int .i64 x.2.1, .int .i64 x.2.2.1, .int .i64 x.2.2.2] 82)) w2.heap.size 82 (cells4 y).toArray := hb7.alloc _
          have hb80 : Box (wr.alloc (.cells #[.int .i64 x.1, .int .i64 x.2.1, .int .i64 x.2.2.1, .int .i64 x.2.2.2] 82)) (w2.heap.size + 1) 82 (cells4 z).toArray := hb8.alloc _
          have hB0 : BW (wr.alloc (.cells #[.int .i64 x.1, .int .i64 x.2.1, .int .i64 x.2.2.1, .int .i64 x.2.2.2] 82)) w.heap.size g6 v' s := ⟨hB.1.alloc _, hB.2.alloc _⟩
          have hG0 : Grew w (wr.alloc (.cells #[.int .i64 x.1, .int .i64 x.2.1, .int .i64 x.2.2.1, .int .i64 x.2.2.2] 82)) := hG.alloc _
          clear hB hb7 hb8
          have HW0 := Lib.hid (write_any g6 w.heap.size v' s (wrap64 (wrap64 (x.1 - wrap64 (2 * y.1)) + z.1)) _ hB0 hsz (HT.out.grew hG0) (by have := code_len_le (n0 z y x); have := code_len_le (n1 y x); have := code_len_le (n2 y x); (try simp only [List.length_append]); omega) hG0.size (wrap_I64 _))
          obtain ⟨d00, d01, d02, d03⟩ := hb10.four
          obtain ⟨f00, f01, f02, f03⟩ := hb70.four
          obtain ⟨z00, -, -, -⟩ := hb80.four
          have HX0 := Lib.hid hb10
          have HY0 := Lib.hid hb70
          have HZ0 := Lib.hid hb80
          have HBB0 := Lib.hid hB0
          have HG0 := Lib.hid hG0
          clear hb10 hb70 hb80 hB0 hG0
          go_wp2_with fail
          refine HW0.out.mono ?_
          rintro e wk1 ⟨rfl, u1, k1, k2, k3⟩
          rw [wn0 z y x] at k1
          have hbx1 := HX0.out.keepW HBB0.out k2
          have hb71 := HY0.out.keepW HBB0.out k2
          have hb81 := HZ0.out.keepW HBB0.out k2
          have hG1 : Grew w wk1 := k2.grew_of HG0.out HBB0.out hsz
          have hB1 := k1
          clear k1 k2 k3 HW0 HX0 HY0 HZ0 HBB0 HG0 d00 d01 d02 d03 f00 f01 f02 f03 z00
          have HW1 := Lib.hid (write_any g6 w.heap.size u1 (s ++ code (n0 z y x)) (wrap64 (wrap64 (x.2.1 - x.1) - wrap64 (y.2.1 - y.1))) _ hB1 hsz (HT.out.grew hG1) (by have := code_len_le (n0 z y x); have := code_len_le (n1 y x); have := code_len_le (n2 y x); (try simp only [List.length_append]); omega) hG1.size (wrap_I64 _))
          obtain ⟨d10, d11, d12, d13⟩ := hbx1.four
          obtain ⟨f10, f11, f12, f13⟩ := hb71.four
          obtain ⟨z10, -, -, -⟩ := hb81.four
          have HX1 := Lib.hid hbx1
          have HY1 := Lib.hid hb71
          have HZ1 := Lib.hid hb81
          have HBB1 := Lib.hid hB1
          have HG1 := Lib.hid hG1
          clear hbx1 hb71 hb81 hB1 hG1
          go_wp2_with fail
          refine HW1.out.mono ?_
          rintro e wk2 ⟨rfl, u2, k1, k2, k3⟩
          rw [wn1 y x] at k1
          have hbx2 := HX1.out.keepW HBB1.out k2
          have hb72 := HY1.out.keepW HBB1.out k2
          have hb82 := HZ1.out.keepW HBB1.out k2
          have hG2 : Grew w wk2 := k2.grew_of HG1.out HBB1.out hsz
          have hB2 := k1
          clear k1 k2 k3 HW1 HX1 HY1 HZ1 HBB1 HG1 d10 d11 d12 d13 f10 f11 f12 f13 z10
          have HW2 := Lib.hid (write_any g6 w.heap.size u2 (s ++ code (n0 z y x) ++ code (n1 y x)) (wrap64 (x.2.2.1 - y.2.2.1)) _ hB2 hsz (HT.out.grew hG2) (by have := code_len_le (n0 z y x); have := code_len_le (n1 y x); have := code_len_le (n2 y x); (try simp only [List.length_append]); omega) hG2.size (wrap_I64 _))
          obtain ⟨d20, d21, d22, d23⟩ := hbx2.four
          obtain ⟨f20, f21, f22, f23⟩ := hb72.four
          obtain ⟨z20, -, -, -⟩ := hb82.four
          have HX2 := Lib.hid hbx2
          have HY2 := Lib.hid hb72
          have HZ2 := Lib.hid hb82
          have HBB2 := Lib.hid hB2
          have HG2 := Lib.hid hG2
          clear hbx2 hb72 hb82 hB2 hG2
          go_wp2_with fail
          refine HW2.out.mono ?_
          rintro e wk3 ⟨rfl, u3, k1, k2, k3⟩
          rw [wn2 y x] at k1
          have hbx3 := HX2.out.keepW HBB2.out k2
          have hb73 := HY2.out.keepW HBB2.out k2
          have hb83 := HZ2.out.keepW HBB2.out k2
          have hG3 : Grew w wk3 := k2.grew_of HG2.out HBB2.out hsz
          have hB3 := k1
          clear k1 k2 k3 HW2 HX2 HY2 HZ2 HBB2 HG2 d20 d21 d22 d23 f20 f21 f22 f23 z20
          have HW3 := Lib.hid (write_any g6 w.heap.size u3 (s ++ code (n0 z y x) ++ code (n1 y x) ++ code (n2 y x)) (wrap64 (wrap64 (x.2.2.2 - x.2.2.1) - wrap64 (y.2.2.2 - y.2.2.1))) _ hB3 hsz (HT.out.grew hG3) (by have := code_len_le (n0 z y x); have := code_len_le (n1 y x); have := code_len_le (n2 y x); (try simp only [List.length_append]); omega) hG3.size (wrap_I64 _))
          obtain ⟨d30, d31, d32, d33⟩ := hbx3.four
          obtain ⟨f30, f31, f32, f33⟩ := hb73.four
          obtain ⟨z30, -, -, -⟩ := hb83.four
          have HX3 := Lib.hid hbx3
          have HY3 := Lib.hid hb73
          have HZ3 := Lib.hid hb83
          have HBB3 := Lib.hid hB3
          have HG3 := Lib.hid hG3
          clear hbx3 hb73 hb83 hB3 hG3
          go_wp2_with fail
          refine HW3.out.mono ?_
          rintro e wk4 ⟨rfl, u4, k1, k2, k3⟩
          rw [wn3 y x] at k1
          have hbx4 := HX3.out.keepW HBB3.out k2
          have hb74 := HY3.out.keepW HBB3.out k2
          have hb84 := HZ3.out.keepW HBB3.out k2
          have hG4 : Grew w wk4 := k2.grew_of HG3.out HBB3.out hsz
          have hB4 := k1
          clear k1 k2 k3 HW3 HX3 HY3 HZ3 HBB3 HG3 d30 d31 d32 d33 f30 f31 f32 f33 z30
          obtain ⟨d40, d41, d42, d43⟩ := hbx4.four
          obtain ⟨f40, f41, f42, f43⟩ := hb74.four
          obtain ⟨y1, y2⟩ := hB4.ne hb74
          obtain ⟨y3, y4⟩ := hB4.ne hb84
          have hne78 : w2.heap.size ≠ w2.heap.size + 1 := by omega
          have hBY := Lib.hid hb74
          have hBZ := Lib.hid hb84
          have hBB := Lib.hid hB4
          have hGG := Lib.hid hG4
          have Y1 := Lib.hid y1
          have Y2 := Lib.hid y2
          have Y3 := Lib.hid y3
          have Y4 := Lib.hid y4
          clear hbx4 hb74 hb84 hB4 hG4 y1 y2 y3 y4
          go_wp2_with (refine st4 (.tmp 7) (.tmp 73) w2.heap.size x y 82 rfl rfl rfl rfl hBY.out ?_)
          intro wA hA kA
          have hZA := hBZ.out.keep kA (fun e => by omega)
          have HA := Lib.hid hA
          have KA := Lib.hid kA
          have HZA := Lib.hid hZA
          clear hA kA hZA
          go_wp2_with (refine st4 (.tmp 8) (.tmp 74) (w2.heap.size + 1) y z 82 rfl rfl rfl rfl HZA.out ?_)
          intro wB hB kB
          have m1 := HA.out.keep kB (fun e => by omega)
          have m3 := (hBB.out.far KA.out (fun e => Y1.out e.symm) (fun k hk e => Y2.out (by rw [hk, e]))).far kB (fun e => Y3.out e.symm) (fun k hk e => Y4.out (by rw [hk, e]))
          have m4 : Grew w wB := Keeps.then_ (Keeps.then_ hGG.out KA.out fun i hi e => by omega) kB fun i hi e => by omega
          rw [← HSS.out] at m3
          clear kB
          go_wp2_with fail
          go_roundw
          case rel =>
            refine ⟨j + 1, _, by omega, by go_num, m3, ?_, ?_, m4⟩
            · rw [HQ1.out]; exact m1
            · rw [HQ2.out]; exact hB
          case measure => simp [intOf]; omega
        · obtain rfl : j = n := by omega
          have hall2 : code j ++ codes ((cnums zc zc cs).take (4 * j)) = cbits cs := by
            unfold cbits
            rw [List.take_of_length_le (by rw [cnums_length, ← HN.out]; omega), ← HN.out]
          rw [hall2] at hB
          have hlen : (cbits cs).length < 1099511627776 := by have := cbits_length cs; have := HS.out; omega
          have HD := Lib.hid (wdone_any g6 w.heap.size v' _ wr hB hlen)
          have hszr := hG.size
          clear hall2 hlen
          go_wp2_with fail
          refine HD.out.mono ?_
          rintro e w3 ⟨v3, rfl, k1, k2⟩
          go_wp2_with fail
          go_ret2
          exact ⟨hG.trans k2, .inl ⟨HE.out, _, rfl, k1.base_le hszr⟩⟩
end Go.Proofs.YtgkmfblmkfclbaaGreatDoor
