/- wire: strings written and read. strings.Builder: written by bytes and strings; what it holds. The reference: whether a claim is encodable; numbers kept in a range; differences of a list. The reference: claims made from numbers: up to nine, each encodable. Labels and their text: the generator Labels, labels.Text. labels.Name and labels.Value at words of small letters. labels.Valid at lists of at most two labels of small letters, in order. labels.Text: some string, not long. decl.Key: some string, not long. -/
import Derived.Test.YtgkmfblmkfclbaaGreatDoorBlockSoundP13
import Derived.Test.YtgkmfblmkfclbaaGreatDoorBlockSoundP19
import Derived.Lib.AppendStr
import Derived.Laws.IdiomStrings
import Derived.Laws.BytesArg
import Derived.Lib.Builder
import Derived.Laws.Externs
import Derived.Lib.UnsafeStr
import Derived.StillTailTactics
import Derived.Test.YtgkmfblmkfclbaaGreatDoorBlockSoundP11
import Derived.Test.YtgkmfblmkfclbaaGreatDoorBlockSoundP10
import Derived.Test.YtgkmfblmkfclbaaGreatDoorBlockSoundP18
import Derived.Laws.RangeString
import Derived.Deep.QuietTactic
import Derived.Deep.DeepCutAuto
import Derived.Laws.Closers25b
import Derived.Laws.Cover1
import Derived.Deep.RegionHeld3
namespace Go.Proofs.YtgkmfblmkfclbaaGreatDoor
open Go.RowKit Pl

def bl (s : ByteArray) : List Nat := s.data.toList.map UInt8.toNat
theorem bl_length (s : ByteArray) : (bl s).length = s.size := by unfold bl; rw [List.length_map, Array.length_toList]; rfl
theorem bl_bytes (s : ByteArray) : Bytes (bl s) := fun x hx => by
  unfold bl at hx
  obtain ⟨b, _, rfl⟩ := List.mem_map.1 hx
  exact b.toNat_lt
theorem bl_cells (s : ByteArray) : Lib.strCells s = (bl s).map vb := by unfold Lib.strCells bl; rw [List.map_map]; rfl
theorem bl_inj {s t : ByteArray} (h : bl s = bl t) : s = t := by
  unfold bl at h
  have h2 : s.data.toList = t.data.toList := (List.map_inj_right (fun a b e => UInt8.toNat_inj.1 e)).1 h
  obtain ⟨s⟩ := s
  obtain ⟨t⟩ := t
  simp only at h2
  rw [Array.toList_inj.1 h2]
theorem sRaw_ok' (c t : List Nat) (hc : c.length < 18446744073709551616) : sRaw (.inr (rawB c ++ t)) = (c, .inr t) := by
  unfold rawB
  rw [List.append_assoc, sRaw_ok (sU_ok (uP_vint0 hc _)) (by rw [List.length_append]; omega), List.take_left' rfl, List.drop_left' rfl]
/- a string appended to a row of bytes -/
theorem app_str {w : World} {base : Nat} {v : Value} {bs : List Nat} {ops : Array Oper} {rest : List Oper} {o : Oper} {a : Act} {Q : Exit → Act → World → Prop} (hgd : o.guard = none) (s x : Operand)
    (ho : o.op = .call { callee := .builtin .append, args := #[s, x], argTypes := #[42, 9] })
    (hs : a.eval s = v) (hown : Mine w base 5 v (bs.map vb)) (t : ByteArray) (hx : a.eval x = .string t)
    (hn : bs.length + t.size ≤ 1099511627776) (hbase : base ≤ w.heap.size)
    (h : ∀ A m cap w', Mine w' base 5 (.slice A m cap) ((bs ++ bl t).map vb) → Keeps (fun i => v.ownBlock = some i) w w' → wpList Tryz.prog ops Q rest (a.put o.dst (.slice A m cap)) w') : wpList Tryz.prog ops Q (o :: rest) a w := by
  refine wpList_plain hgd fun K hK => ?_
  obtain ⟨i, hi, hz, hsz, hby⟩ := info_parts slU8.info
  obtain ⟨v', w', hrun, h2, h3, _⟩ := Lib.run_append_own_string (P := Tryz.prog) w base 42 9 o.type 5 i Tryz.underlying42 Tryz.underlying9 hi hz hsz hby v _ _ hown t (by rw [List.length_map]; unfold maxLen; omega) (by rw [List.length_map]; omega) hbase
  have hm : Mine w' base 5 v' ((bs ++ bl t).map vb) := by
    unfold Mine
    rw [List.map_append, List.length_append, ← bl_cells, Lib.strCells_length]
    exact h2
  unfold Oper.wp execOp
  simp only [ho, resolve, invoke, builtin, Sem.run_bind, Sem.run_pure, Result.andThen_ok, List.map_toArray, List.map_cons, List.map_nil, hs, hx, hrun]
  obtain ⟨A, m, cap, rfl, -⟩ := hm.slice
  exact hK _ _ (h A m cap w' hm ((Keeps.refl _ w).grown h3 (fun k e _ => e)))
/- the string of bytes that were read -/
set_option maxRecDepth 100000 in
theorem conv_str (s : ByteArray) {w : World} {B : Nat} {A : Option Addr} {n c : Nat} (h : Rd w B (.slice A n c) ((bl s).map vb)) : (convert 42 9 (.slice A n c)).run Tryz.prog w = .ok (.string s) w := by
  obtain ⟨A', c', hv, hc, hx⟩ := h
  injection hv with e1 e2 e3
  subst e1 e2 e3
  rw [List.length_map] at *
  rcases A with _ | ad
  · have hz : bl s = [] := by
      rcases hb : bl s with _ | ⟨y, ys⟩
      · rfl
      · obtain ⟨ad, h, _⟩ := hx (by rw [hb]; simp)
        cases h
    have hs0 : s = ⟨#[]⟩ := bl_inj (by rw [hz]; rfl)
    rw [hs0]
    exact run_convert_bytes_nil (P := Tryz.prog) (w := w) 42 5 Tryz.underlying42 Tryz.underlying5 _ _ 9 Tryz.underlying9
  · have hl : (bl s).length = s.data.toList.length := by rw [bl_length, Array.length_toList]; rfl
    have := run_convert_bytes_back (P := Tryz.prog) w 42 9 5 ad c s.data.toList Tryz.underlying42 Tryz.underlying5 Tryz.underlying9 (fun j hj => by
      obtain ⟨ad', e, _, hcell⟩ := hx (by omega)
      injection e with e
      subst e
      refine hcell j _ ?_
      unfold bl
      rw [List.getElem?_map, List.getElem?_map, List.getElem?_eq_getElem hj]
      rfl)
    rw [hl]
    exact this
end Go.Proofs.YtgkmfblmkfclbaaGreatDoor
namespace Go.Proofs.YtgkmfblmkfclbaaGreatDoor
open Go.RowKit Pl

theorem keeps_freeze {S : Nat → Prop} (w : World) (p : Addr) (n : Nat) (hp : S p.block) : Keeps S w (w.freeze p n) := by
  unfold World.freeze
  split
  · exact Keeps.refl _ _
  · exact ⟨rfl, rfl, rfl, by simp, fun k hk hn => by
      simp only [Array.getElem?_modify]
      rw [if_neg (fun e => hn (by rw [← e]; exact hp))]⟩
end Go.Proofs.YtgkmfblmkfclbaaGreatDoor
namespace Go.Proofs.YtgkmfblmkfclbaaGreatDoor
open Go.RowKit Pl

theorem cells4_at (c : Clm) (j : Nat) (hj : j < 4) : (cells4 c).toArray[j]? = some (.int .i64 ((l4 c).getD j 0)) := by
  have : j = 0 ∨ j = 1 ∨ j = 2 ∨ j = 3 := by omega
  rcases this with rfl | rfl | rfl | rfl <;> rfl
theorem okC_l4 (c : Clm) : okC c ↔ ∀ x ∈ l4 c, R40 x := by unfold okC l4; simp
theorem l4_get (c : Clm) (j : Nat) (hj : j < 4) : (l4 c)[j]? = some ((l4 c).getD j 0) := by
  have : j = 0 ∨ j = 1 ∨ j = 2 ∨ j = 3 := by omega
  rcases this with rfl | rfl | rfl | rfl <;> rfl

/- a number brought into the range from -m to m -/
def bnd (n : Int) (m : Nat) : Int := (arnd n (2 * m + 1) : Nat) - (m : Int)
theorem bnd_range (n : Int) (m : Nat) : -(m : Int) ≤ bnd n m ∧ bnd n m ≤ m := by
  have := arnd_lt n (2 * m + 1) (by omega)
  unfold bnd; omega
end Go.Proofs.YtgkmfblmkfclbaaGreatDoor
namespace Go.Proofs.YtgkmfblmkfclbaaGreatDoor
open Go.RowKit Pl

def ClaimsPost (w : World) (e : Ending) (w' : World) : Prop :=
  ∃ v cs, e = .returned v ∧ MineC w' w.heap.size v cs ∧ (∀ c ∈ cs, okC c) ∧ cs.length ≤ 9 ∧ Grew w w'

theorem still_around (n : Int) (m : Nat) (w : World) (hn : I64 n) (hm : 0 < m) (hm2 : m ≤ 9223372036854775807) :
    Calls Tryz.prog 8 #[.int .i64 n, .int .i64 (m : Nat)] w fun e w' => e = .returned (.int .i64 (arnd n m : Nat)) ∧ w' = w :=
  (around_any n m w hn hm hm2).mono fun _ _ h => ⟨h.1, h.2.symm⟩
theorem arnd' (n m : Int) (w : World) (hn : I64 n) (hm : 0 < m) (hm2 : m ≤ 9223372036854775807) :
    Calls Tryz.prog 8 #[.int .i64 n, .int .i64 m] w fun e w' => e = .returned (.int .i64 (arnd n m.toNat : Nat)) ∧ w' = w := by
  have := still_around n m.toNat w hn (by omega) (by omega)
  rwa [Int.toNat_of_nonneg (by omega)] at this
theorem ok_snoc {ac : List Clm} {d : Clm} (h : ∀ c ∈ ac, okC c) (hd : okC d) : ∀ c ∈ ac ++ [d], okC c := fun c hc => by
  rcases List.mem_append.1 hc with h1 | h1
  · exact h c h1
  · obtain rfl := List.mem_singleton.1 h1; exact hd
end Go.Proofs.YtgkmfblmkfclbaaGreatDoor
namespace Go.Proofs.YtgkmfblmkfclbaaGreatDoor
open Go.RowKit Pl

/- a slice of labels: name and value of each, short -/
def RdL (w : World) (v : Value) (ls : List (ByteArray × ByteArray)) : Prop :=
  (∀ p ∈ ls, p.1.size ≤ 16 ∧ p.2.size ≤ 16) ∧ ∃ A c, v = .slice A ls.length c ∧ (0 < ls.length → ∃ b, A = some ⟨b, 0, none⟩ ∧ b < w.heap.size ∧ ∀ j p, ls[j]? = some p → w.cell? ⟨b, j * 2, none⟩ = some (.string p.1) ∧ w.cell? ⟨b, j * 2 + 1, none⟩ = some (.string p.2))
theorem RdL.grew {w w' : World} {v : Value} {ls : List (ByteArray × ByteArray)} (h : RdL w v ls) (k : Grew w w') : RdL w' v ls := by
  obtain ⟨h0, A, c, hv, hx⟩ := h
  refine ⟨h0, A, c, hv, fun hn => ?_⟩
  obtain ⟨b, e, hb, hcell⟩ := hx hn
  refine ⟨b, e, Nat.lt_of_lt_of_le hb k.size, fun j p hp => ?_⟩
  have hbk := k.block b hb (fun e => e)
  exact ⟨(World.cell?_of_block (a := ⟨b, j * 2, none⟩) hbk).trans (hcell j p hp).1, (World.cell?_of_block (a := ⟨b, j * 2 + 1, none⟩) hbk).trans (hcell j p hp).2⟩
theorem RdL.nil (w : World) (c : Nat) : RdL w (.slice none 0 c) [] := ⟨by simp, none, c, rfl, fun h => by simp at h⟩
/- the four lists of labels -/
def lab4 : List (List (ByteArray × ByteArray)) := [[], [(⟨#[104, 111, 115, 116]⟩, ⟨#[97]⟩)], [(⟨#[104, 111, 115, 116]⟩, ⟨#[98]⟩)], [(⟨#[104, 111, 115, 116]⟩, ⟨#[98]⟩), (⟨#[122, 111, 110, 101]⟩, ⟨#[120]⟩)]]
theorem lab4_len {ls : List (ByteArray × ByteArray)} (h : ls ∈ lab4) : ls.length ≤ 2 := by
  simp only [lab4, List.mem_cons, List.not_mem_nil, or_false] at h
  rcases h with rfl | rfl | rfl | rfl <;> simp
set_option maxHeartbeats 1600000 in
set_option maxRecDepth 100000 in
theorem labels_any (n : Int) (w : World) (hn : I64 n) :
    Calls Tryz.prog 16 #[.int .i64 n] w fun e w' => ∃ v ls, e = .returned v ∧ RdL w' v ls ∧ ls ∈ lab4 ∧ Grew w w' := by
  have HA := Lib.hid (arnd' n 4 w hn (by omega) (by omega))
  have hk := arnd_lt n (4 : Int).toNat (by decide)
  generalize arnd n (4 : Int).toNat = k at *
  have hk4 : k < 4 := hk
  have hcase : k = 0 ∨ k = 1 ∨ k = 2 ∨ k = 3 := by omega
  clear hk hk4
  go_enter Tryz.func16, Tryz.ntmps16
  go_wp2_with fail
  refine HA.out.mono ?_
  rintro e w' ⟨rfl, hw'⟩
  rw [hw']; clear hw' w' HA
  rcases hcase with rfl | rfl | rfl | rfl
  · go_wp2_with fail
    go_ret
    exact ⟨_, [], rfl, RdL.nil _ _, by simp [lab4], Grew.refl _⟩
  · go_wp2_with fail
    go_ret
    refine ⟨_, [(⟨#[104, 111, 115, 116]⟩, ⟨#[97]⟩)], rfl, ⟨by simp; decide, _, _, rfl, fun _ => ⟨_, rfl, by simp, fun j p hp => ?_⟩⟩, by simp [lab4], (Grew.refl w).alloc _⟩
    match j, hp with
    | 0, hp => cases hp; exact ⟨(Box.new w _ _).cell 0, (Box.new w _ _).cell 1⟩
  · go_wp2_with fail
    go_ret
    refine ⟨_, [(⟨#[104, 111, 115, 116]⟩, ⟨#[98]⟩)], rfl, ⟨by simp; decide, _, _, rfl, fun _ => ⟨_, rfl, by simp, fun j p hp => ?_⟩⟩, by simp [lab4], (Grew.refl w).alloc _⟩
    match j, hp with
    | 0, hp => cases hp; exact ⟨(Box.new w _ _).cell 0, (Box.new w _ _).cell 1⟩
  · go_wp2_with fail
    go_ret
    refine ⟨_, [(⟨#[104, 111, 115, 116]⟩, ⟨#[98]⟩), (⟨#[122, 111, 110, 101]⟩, ⟨#[120]⟩)], rfl, ⟨by simp; decide, _, _, rfl, fun _ => ⟨_, rfl, by simp, fun j p hp => ?_⟩⟩, by simp [lab4], (Grew.refl w).alloc _⟩
    match j, hp with
    | 0, hp => cases hp; exact ⟨(Box.new w _ _).cell 0, (Box.new w _ _).cell 1⟩
    | 1, hp => cases hp; exact ⟨(Box.new w _ _).cell 2, (Box.new w _ _).cell 3⟩
end Go.Proofs.YtgkmfblmkfclbaaGreatDoor
namespace Go.Proofs.YtgkmfblmkfclbaaGreatDoor
open Go.RowKit Pl

def Low (s : ByteArray) : Prop := 1 ≤ s.size ∧ s.size ≤ 16 ∧ ∀ i (h : i < s.size), 97 ≤ (s[i]'h).toNat ∧ (s[i]'h).toNat ≤ 122
def itPos (w : World) (g : Nat) : Nat := match w.heap[g]? with | some (.stringIter _ p) => p | _ => 0
theorem itPos_iter (w : World) (s : ByteArray) (p : Nat) : itPos (w.iter s p) w.heap.size = p := by unfold itPos; rw [World.iter_heap]
theorem grew_iter (w : World) (s : ByteArray) (p : Nat) : Grew w (w.iter s p) := (Grew.refl w).alloc _

set_option maxHeartbeats 3200000 in
theorem name_low (s : ByteArray) (hs : Low s) (w : World) : Calls Tryz.prog 68 #[.string s] w fun e w' => e = .returned (.bool true) ∧ Grew w w' := by
  obtain ⟨h1, h2, h3⟩ := hs
  have t1 : decide ((s.size : Int) < 1) = false := by simp; omega
  have t2 : decide ((16 : Int) < (s.size : Int)) = false := by simp; omega
  have H3 := Lib.hid h3
  clear h3
  go_enter Tryz.func68, Tryz.ntmps68
  go_wp2_with fail
  go_loopw [3] (fun _ wr => ∃ (p : Nat), p ≤ s.size ∧ wr = w.iter s p) (fun _ wr => s.size - itPos wr w.heap.size)
  case atStart => exact ⟨0, by omega, rfl⟩
  case round =>
    obtain ⟨p, hp, rfl⟩ := hrel
    by_cases hlt : p < s.size
    · have hb := H3.out p hlt
      have hnx := fun ty => run_next_ascii (P := Tryz.prog) w s p ty hlt (by omega)
      generalize (s[p]'hlt).toNat = b at *
      have t3 : decide ((97 : Int) ≤ (b : Int)) = true := by simp; omega
      have t4 : decide ((b : Int) ≤ 122) = true := by simp; omega
      go_wp2_with fail
      go_roundw
      case rel => exact ⟨p + 1, by omega, rfl⟩
      case measure => rw [itPos_iter, itPos_iter]; omega
    · have hnx := fun ty => run_next_end (P := Tryz.prog) w s p ty hlt
      go_wp2_with fail
      go_ret
      exact ⟨rfl, grew_iter w s p⟩
set_option maxHeartbeats 3200000 in
theorem value_low (s : ByteArray) (hs : Low s) (w : World) : Calls Tryz.prog 88 #[.string s] w fun e w' => e = .returned (.bool true) ∧ Grew w w' := by
  obtain ⟨h1, h2, h3⟩ := hs
  have t2 : decide ((16 : Int) < (s.size : Int)) = false := by simp; omega
  have H3 := Lib.hid h3
  clear h3
  go_enter Tryz.func88, Tryz.ntmps88
  go_wp2_with fail
  go_loopw [4] (fun _ wr => ∃ (p : Nat), p ≤ s.size ∧ wr = w.iter s p) (fun _ wr => s.size - itPos wr w.heap.size)
  case atStart => exact ⟨0, by omega, rfl⟩
  case round =>
    obtain ⟨p, hp, rfl⟩ := hrel
    by_cases hlt : p < s.size
    · have hb := H3.out p hlt
      have hnx := fun ty => run_next_ascii (P := Tryz.prog) w s p ty hlt (by omega)
      generalize (s[p]'hlt).toNat = b at *
      have t3 : decide ((b : Int) < 33) = false := by simp; omega
      have t4 : decide ((126 : Int) < (b : Int)) = false := by simp; omega
      have e1 : ((b : Int) == 34) = false := by rw [beq_eq_false_iff_ne]; omega
      have e2 : ((b : Int) == 92) = false := by rw [beq_eq_false_iff_ne]; omega
      have e3 : ((b : Int) == 44) = false := by rw [beq_eq_false_iff_ne]; omega
      have e4 : ((b : Int) == 123) = false := by rw [beq_eq_false_iff_ne]; omega
      have e5 : ((b : Int) == 125) = false := by rw [beq_eq_false_iff_ne]; omega
      go_wp2_with fail
      go_roundw
      case rel => exact ⟨p + 1, by omega, rfl⟩
      case measure => rw [itPos_iter, itPos_iter]; omega
    · have hnx := fun ty => run_next_end (P := Tryz.prog) w s p ty hlt
      go_wp2_with fail
      go_ret
      exact ⟨rfl, grew_iter w s p⟩
end Go.Proofs.YtgkmfblmkfclbaaGreatDoor
namespace Go.Proofs.YtgkmfblmkfclbaaGreatDoor
open Go.RowKit Pl

set_option maxHeartbeats 6400000 in
set_option maxRecDepth 100000 in
theorem lvalid_any (v : Value) (ls : List (ByteArray × ByteArray)) (w : World) (h : RdL w v ls) (hl : ls.length ≤ 2) (hlow : ∀ p ∈ ls, Low p.1 ∧ Low p.2) (ho : ∀ (h : 1 < ls.length), Op.bytesLess (ls[0].1).toList (ls[1].1).toList = true) :
    Calls Tryz.prog 69 #[v] w fun e w' => e = .returned (.bool true) ∧ Grew w w' := by
  obtain ⟨-, A, c, rfl, hx⟩ := h
  obtain ⟨n, hn⟩ : ∃ n, n = ls.length := ⟨_, rfl⟩
  rw [← hn] at hl hx ⊢
  have HX := Lib.hid hx
  have HN := Lib.hid hn
  have HL := Lib.hid hlow
  have HO := Lib.hid ho
  have t8 : decide ((8 : Int) < (n : Int)) = false := by simp; omega
  clear hx hn hlow ho
  go_enter Tryz.func69, Tryz.ntmps69
  go_wp2_with fail
  go_loopw [10] (fun i wr => ∃ (j : Nat), j ≤ n ∧ i = .int .i64 (j : Nat) ∧ Grew w wr) (fun i _ => n - (intOf i).toNat)
  case atStart => exact ⟨0, by omega, rfl, Grew.refl w⟩
  case round =>
    obtain ⟨j, hj, rfl, hG⟩ := hrel
    have hsr := hG.size
    by_cases hlt : j < n
    · obtain ⟨b, rfl, hblk, hcell⟩ := HX.out (by omega)
      have hc : j = 0 ∨ j = 1 := by omega
      rcases hc with rfl | rfl
      · have hjl : 0 < ls.length := by rw [← HN.out]; exact hlt
        obtain ⟨x0, x1⟩ := hcell 0 _ (List.getElem?_eq_getElem hjl)
        have hbk := hG.block b hblk (fun e => e)
        have y0 : wr.cell? ⟨b, 0, none⟩ = some (.string ls[0].1) := (World.cell?_of_block (a := ⟨b, 0 * 2, none⟩) hbk).trans x0
        have y1 : wr.cell? ⟨b, 1, none⟩ = some (.string ls[0].2) := (World.cell?_of_block (a := ⟨b, 0 * 2 + 1, none⟩) hbk).trans x1
        obtain ⟨hL1, hL2⟩ := HL.out ls[0] (List.getElem_mem hjl)
        generalize ls[0].1 = nm at *
        generalize ls[0].2 = vl at *
        have hbox := Box.new wr 84 #[.string nm, .string vl]
        have hGa := hG.alloc (.cells #[.string nm, .string vl] 84)
        have hvs : vl.toList ≠ [] := by
          intro e
          have h1 := hL2.1
          rw [ByteArray.toList_eq] at e
          have h2 : vl.data.size = 0 := by rw [← Array.length_toList, e]; rfl
          have h3 : vl.size = vl.data.size := rfl
          omega
        have hne1 : vl.toList.isEmpty = false := by cases h : vl.toList with | nil => exact absurd h hvs | cons => rfl
        have hne2 : (vl.toList == ([] : List UInt8)) = false := by cases h : vl.toList with | nil => exact absurd h hvs | cons => rfl
        have hne3 : ¬ (vl = ByteArray.empty) := fun e => hvs ((toList_nil_iff_emptyBytes vl).2 e)
        have tl : decide (0 < n) = true := by simpa using hlt
        have tl2 : decide (((0 : Nat) : Int) < (n : Int)) = true := by simp; omega
        have HN1 := Lib.hid (fun w' => name_low nm hL1 w')
        have HV1 := Lib.hid (fun w' => value_low vl hL2 w')
        clear x0 x1 hcell hbk hL1 hL2
        skip
        go_upto_region 6 with fail
        generalize wr.alloc (.cells #[.string nm, .string vl] 84) = wA at *
        have z0 : wA.cell? ⟨wr.heap.size, 0, none⟩ = some (.string nm) := hbox.cell 0
        go_wp2_with fail
        refine (HN1.out wA).mono ?_
        rintro e wB ⟨rfl, kB⟩
        have z1 : wB.cell? ⟨wr.heap.size, 1, none⟩ = some (.string vl) := (hbox.grew kB).cell 1
        have hGB := hGa.trans kB
        go_wp2_with fail
        refine (HV1.out wB).mono ?_
        rintro e wC ⟨rfl, kC⟩
        have hGC := hGB.trans kC
        have z2 : wC.cell? ⟨wr.heap.size, 0, none⟩ = some (.string nm) := (hbox.grew (kB.trans kC)).cell 0
        go_wp2_with fail
        go_quiet (fail)
        go_wp2_with fail
        go_roundw
        case rel => exact ⟨1, by omega, by go_num, Keeps.drewN hGC _⟩
        case measure => simp [intOf]; omega
      · have hjl : 1 < ls.length := by rw [← HN.out]; exact hlt
        obtain ⟨x0, x1⟩ := hcell 1 _ (List.getElem?_eq_getElem hjl)
        have hbk := hG.block b hblk (fun e => e)
        have y0 : wr.cell? ⟨b, 2, none⟩ = some (.string ls[1].1) := (World.cell?_of_block (a := ⟨b, 1 * 2, none⟩) hbk).trans x0
        have y1 : wr.cell? ⟨b, 3, none⟩ = some (.string ls[1].2) := (World.cell?_of_block (a := ⟨b, 1 * 2 + 1, none⟩) hbk).trans x1
        obtain ⟨hL1, hL2⟩ := HL.out ls[1] (List.getElem_mem hjl)
        have hjl0 : 0 < ls.length := by omega
        obtain ⟨u0, u1⟩ := hcell 0 _ (List.getElem?_eq_getElem hjl0)
        have hord := HO.out hjl
        have u0' : ∀ w', Grew w w' → w'.cell? ⟨b, 0, none⟩ = some (.string ls[0].1) := fun w' g => (World.cell?_of_block (a := ⟨b, 0 * 2, none⟩) (g.block b hblk (fun e => e))).trans u0
        generalize ls[0].1 = nm0 at *
        generalize ls[1].1 = nm at *
        generalize ls[1].2 = vl at *
        have hbox := Box.new wr 84 #[.string nm, .string vl]
        have hGa := hG.alloc (.cells #[.string nm, .string vl] 84)
        have hvs : vl.toList ≠ [] := by
          intro e
          have h1 := hL2.1
          rw [ByteArray.toList_eq] at e
          have h2 : vl.data.size = 0 := by rw [← Array.length_toList, e]; rfl
          have h3 : vl.size = vl.data.size := rfl
          omega
        have hne1 : vl.toList.isEmpty = false := by cases h : vl.toList with | nil => exact absurd h hvs | cons => rfl
        have hne2 : (vl.toList == ([] : List UInt8)) = false := by cases h : vl.toList with | nil => exact absurd h hvs | cons => rfl
        have hne3 : ¬ (vl = ByteArray.empty) := fun e => hvs ((toList_nil_iff_emptyBytes vl).2 e)
        have tl : decide (1 < n) = true := by simpa using hlt
        have tl2 : decide (((1 : Nat) : Int) < (n : Int)) = true := by simp; omega
        have HN1 := Lib.hid (fun w' => name_low nm hL1 w')
        have HV1 := Lib.hid (fun w' => value_low vl hL2 w')
        clear x0 x1 hcell hbk hL1 hL2
        try simp only [Int.natCast_one]
        go_upto_region 6 with fail
        generalize wr.alloc (.cells #[.string nm, .string vl] 84) = wA at *
        have z0 : wA.cell? ⟨wr.heap.size, 0, none⟩ = some (.string nm) := hbox.cell 0
        go_wp2_with fail
        refine (HN1.out wA).mono ?_
        rintro e wB ⟨rfl, kB⟩
        have z1 : wB.cell? ⟨wr.heap.size, 1, none⟩ = some (.string vl) := (hbox.grew kB).cell 1
        have hGB := hGa.trans kB
        go_wp2_with fail
        refine (HV1.out wB).mono ?_
        rintro e wC ⟨rfl, kC⟩
        have hGC := hGB.trans kC
        have z2 : wC.cell? ⟨wr.heap.size, 0, none⟩ = some (.string nm) := (hbox.grew (kB.trans kC)).cell 0
        have z3 := u0' wC hGC
        have w1 : IntKind.i64.wrap 0 = 0 := by decide
        have w2 : ((1 : Int) - 1) = 0 := by decide
        have w3 : (0 : Int) < (n : Int) := by omega
        have w4 : 0 < n := by omega
        have w5 : ¬ (n = 0) := by omega
        have w6 : ((1 : Nat) : Int) = 1 := rfl
        have tO1 : (!Op.bytesLess nm0.toList nm.toList) = false := by rw [hord]; rfl
        clear u0' u0 u1 y0 y1
        go_wp2_with fail
        go_quiet (fail)
        go_wp2_with fail
        go_roundw
        case rel => exact ⟨2, by omega, by go_num, Keeps.drewN hGC _⟩
        case measure => simp [intOf]; omega
    · go_wp2_with fail
      go_ret
      exact ⟨rfl, hG⟩
end Go.Proofs.YtgkmfblmkfclbaaGreatDoor
namespace Go.Proofs.YtgkmfblmkfclbaaGreatDoor
open Go.RowKit Pl

theorem grew_base {w w' : World} (h : Keeps (fun i => w.heap.size ≤ i) w w') : Grew w w' := Keeps.mono h (fun i hi e => by omega)
theorem bytes_snoc {bs : List Nat} (h : Bytes bs) {c : Nat} (hc : c < 256) : Bytes (bs ++ [c]) := fun x hx => by
  rcases List.mem_append.1 hx with h1 | h1
  · exact h x h1
  · simp at h1; omega
end Go.Proofs.YtgkmfblmkfclbaaGreatDoor
namespace Go.Proofs.YtgkmfblmkfclbaaGreatDoor
open Go.RowKit Pl

/- a declaration: its name, its labels, whatever the numbers are -/
def vdecl (nm : ByteArray) (v : Value) (x : Fin 10 → Int) : Value :=
  .agg #[.string nm, v, .int .i64 (x 0), .int .i64 (x 1), .int .i64 (x 2), .int .i64 (x 3), .int .i64 (x 4), .int .i64 (x 5), .int .i64 (x 6), .int .i64 (x 7), .int .i64 (x 8), .int .i64 (x 9)]
end Go.Proofs.YtgkmfblmkfclbaaGreatDoor
