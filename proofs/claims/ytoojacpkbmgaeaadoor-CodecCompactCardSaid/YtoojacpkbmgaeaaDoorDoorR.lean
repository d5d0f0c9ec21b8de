/- How long an argument that came in may be. -/
import Derived.Test.YtoojacpkbmgaeaaDoorDoor
import Derived.SizedLaws
namespace Go.Proofs.YtoojacpkbmgaeaaDoor
open Go.ChangeShapes Go.WideShapes Go.ChangeAt Go.RowKit Pl

theorem Rd.len_eq {w : World} {B : Nat} {A : Option Addr} {n c : Nat} {xs : List Value} (h : Rd w B (.slice A n c) xs) : n = xs.length := by
  obtain ⟨A', c', hv, _⟩ := h
  injection hv
theorem bytesInt : Tryd.prog.bytesOf 3 = 8 := by kernel_rfl
theorem ints_len {H : Type} {enc : TypeId × Value → H} {W : World} {a : Option Addr} {len cap : Nat} {d : DataW H} {p : List MemPlace} {ts : List TypeId} {ds : List (DataW H)} {ls : List Int}
    (h : DataW.Trod enc Tryd.prog W 0 (fun _ => true) true 22 (.slice a len cap) d p) (hsz : (DataW.weightsEach Tryd.prog ts ds).all (· ≤ reachBytes) = true)
    (j : Nat) (hj : ts[j]? = some 22) (hd : ds[j]? = some d) (hr : Rd W W.heap.size (.slice a len cap) (ls.map vi)) : ls.length ≤ 1000000000000000 := by
  have hl := hr.len_eq
  rw [List.length_map] at hl
  rw [← hl]
  obtain ⟨fuel, hf⟩ := h
  rcases open_ints Tryd.underlying22 Tryd.underlying3 (by kernel_rfl) hf with ⟨hcs, _⟩ | ⟨x, l, c, zs, hcs, _, hl, hm, hz, hx, _⟩
  · simp [Value.cells] at hcs
    omega
  · simp [Value.cells] at hcs
    obtain ⟨rfl, rfl, rfl⟩ := hcs
    simp only [Prod.mk.injEq] at hx
    obtain ⟨rfl, -⟩ := hx
    have := sized_slice hsz hj hd Tryd.underlying22
    rw [bytesInt] at this
    have hl1 : (lits (H := H) .i64 (zs.take len)).length = len := by
      simp [lits]
      simp at hz
      omega
    have hb := reachBytes_lt
    rw [hl1] at this
    omega
end Go.Proofs.YtoojacpkbmgaeaaDoor
