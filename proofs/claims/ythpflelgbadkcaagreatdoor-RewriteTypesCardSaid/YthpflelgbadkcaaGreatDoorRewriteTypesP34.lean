/- The generator of queries: number. -/
import Derived.Test.YthpflelgbadkcaaGreatDoorRewriteTypesP01
import Derived.Test.YthpflelgbadkcaaGreatDoorRewriteTypesP17
set_option maxRecDepth 100000
set_option maxHeartbeats 12800000
set_option linter.unusedVariables false
set_option linter.unusedSimpArgs false
namespace Go.Proofs.YthpflelgbadkcaaGreatDoor
open Go.RowKit Pl
def R2:List (Int×Int):=[(0,1),(1,1),(2,1),(3,1),(1,2),(-1,1),(-2,3),(4611686018427387904,1)]
theorem QG (k:Nat) (hk:k<8):∃n d:Int,R2[k]? =some (n,d)∧Al n d=true:=by
 rcases(show k=0∨k=1∨k=2∨k=3∨k=4∨k=5∨k=6∨k=7 by omega)with rfl|rfl|rfl|rfl|rfl|rfl|rfl|rfl<;>exact⟨_,_,rfl,by decide⟩
def Ev:List Value:=[.int .i64 0,.int .i64 1,.int .i64 1,.int .i64 1,.int .i64 2,.int .i64 1,.int .i64 3,.int .i64 1,.int .i64 1,.int .i64 2,.int .i64 (-1),.int .i64 1,.int .i64 (-2),.int .i64 3,.int .i64 4611686018427387904,.int .i64 1]
theorem OW {w:World} {z:Nat} {t:TypeId} (h:AR w z t Ev.toArray) {k:Nat} {n d:Int} (hk:R2[k]? =some (n,d)):w.rangeAt z (k*2) [.int .i64 n,.int .i64 d]:=by
 have hk8:k<8:=(VG.1 hk).1;rcases(show k=0∨k=1∨k=2∨k=3∨k=4∨k=5∨k=6∨k=7 by omega)with rfl|rfl|rfl|rfl|rfl|rfl|rfl|rfl<;>(
  simp only[R2,List.getElem?_cons_zero,List.getElem?_cons_succ,VQ,VP]at hk;obtain⟨rfl,rfl⟩:=hk;exact h.rangeN _ _ rfl)
theorem FJ (w:World) (g B:Nat) (v:Value) (l:List Int) (i:Nat) (h:GS w g B v l i) (hi:i≤100000):
  Calls Tryz.prog 52 #[.pointer (some ⟨g,0,none⟩)] w (EP g B v l w.heap.size 1 1 i 1 w):=by
 have hgl:=h.1.lt;have hb2:=VW w 29 (AJ 0 0).toArray;have hG:=(VU w).alloc (.cells (AJ 0 0).toArray 29);have hs:(w.alloc (.cells (AJ 0 0).toArray 29)).heap.size=w.heap.size+1:=by simp
 have HGS:=V3 h;have HGL:=V3 hgl;clear h hgl;go_enter Tryz.func52,Tryz.ntmps52;go_upto_region 1 with fail;change Code.wp _ _ _ _ (w.alloc (.cells (AJ 0 0).toArray 29));generalize w.alloc (.cells (AJ 0 0).toArray 29)=w1 at*;have HS:=V3 hs;clear hs;go_upto_region 2 with fail;change Code.wp _ _ _ _ (w1.alloc (.cells Ev.toArray 24));have hbF:=VW w1 24 Ev.toArray;have hG2:=(VU w1).alloc (.cells Ev.toArray 24);generalize w1.alloc (.cells Ev.toArray 24)=w2 at*;have HNx:=V3 (show Calls Tryz.prog 51 #[.pointer (some ⟨g,0,none⟩),.int .i64 16] w2 (Bt g B v l i 16 w2)from BR w2 g B v l i 16 (HGS.out.grew (hG.trans hG2)) hi (by decide) (by decide));have HB:=V3 (V5 (hb2.grew hG2) (V5 hbF (hG.trans hG2)));have hzf:w1.heap.size<w2.heap.size:=hbF.lt;have HZF:=V3 hzf;generalize w1.heap.size=z1 at*;clear hb2 hG hbF hG2 hzf;go_upto_region 3 with(first|(go_at_call 51;(with_reducible refine HNx.out.mono ?_);rintro e3 w3 ⟨r,hr,rfl,hgs,k3⟩;have HG3:=V3 hgs;have HK3:=V3 k3;clear hgs k3));have hb2:=HB.out.1.keep HK3.out (by have:=HGL.out;omega);have hbF:=HB.out.2.1.keep HK3.out (by have:=HS.out;have:=HGL.out;omega);obtain⟨k,hk8,hkr⟩:∃k:Nat,k<8∧((8≤r∧r%4=k)∨(r<8∧r=k)):=by
  by_cases h8:8≤r
  ·exact⟨r%4,by omega,.inl ⟨h8,rfl⟩⟩
  exact⟨r,by omega,.inr ⟨by omega,rfl⟩⟩
 obtain⟨n,d,hfk,hval⟩:=QG k hk8;have HRow:=V3 (OW hbF hfk);have HVal:=V3 hval;clear hfk hval hbF;rcases hkr with⟨h8,hk⟩|⟨h8,hk⟩
 ·have t8:decide ((8:Int)≤(r:Int))=true:=by simp;omega
  have hmod:(r:Int)%4=(k:Int):=by omega
  have hmod2:((r:Int).tmod 4)=(k:Int):=by rw[Int.tmod_eq_emod_of_nonneg (by omega)];exact hmod
  clear h8 hk;go_upto_region 5 with fail;go_wp2_with(first|((with_reducible refine AF 24 (.tmp 24) rfl ?_);refine wpList_load_mid rfl 24 (.tmp 24) rfl z1 (k*2) rfl [.int .i64 n,.int .i64 d] _ HRow.out Tryz.underlying24 rfl Ao ?_)|((with_reducible refine AG 29 (.tmp 2) (.tmp 26) rfl ?_);refine BL 29 (.tmp 2) (.tmp 26) (w.heap.size) (AJ n d) (AJ 0 0) 29 AE rfl (Bh _ _) rfl rfl rfl rfl hb2 ?_;intro w8 hb8 k8 d8));refine bodyPost_ret (AO rfl rfl AE Tryz.underlying29 rfl hb8) rfl ?_;have hgl:=HGL.out;refine⟨BB n d,AJ n d,i+1,rfl,Kp _ _ _ _,Fp HVal.out,⟨HG3.out.1.keep k8 (by omega),HG3.out.2.1.keep (by have:=HG3.out.2.2.1;have:=HG3.out.1.lt;omega) k8 (fun b hb e=>by have:=HG3.out.2.2.1;omega),HG3.out.2.2⟩,V6 _,VV (VV (Vb HB.out.2.2) HK3.out fun b hb e=>e) k8 fun b hb e=>by omega⟩
 subst hk;have t8:decide ((8:Int)≤(r:Int))=false:=by simp;omega
 clear h8;go_upto_region 5 with fail;go_wp2_with(first|((with_reducible refine AF 24 (.tmp 24) rfl ?_);refine wpList_load_mid rfl 24 (.tmp 24) rfl z1 (r*2) rfl [.int .i64 n,.int .i64 d] _ HRow.out Tryz.underlying24 rfl Ao ?_)|((with_reducible refine AG 29 (.tmp 2) (.tmp 26) rfl ?_);refine BL 29 (.tmp 2) (.tmp 26) (w.heap.size) (AJ n d) (AJ 0 0) 29 AE rfl (Bh _ _) rfl rfl rfl rfl hb2 ?_;intro w8 hb8 k8 d8));refine bodyPost_ret (AO rfl rfl AE Tryz.underlying29 rfl hb8) rfl ?_;have hgl:=HGL.out;refine⟨BB n d,AJ n d,i+1,rfl,Kp _ _ _ _,Fp HVal.out,⟨HG3.out.1.keep k8 (by omega),HG3.out.2.1.keep (by have:=HG3.out.2.2.1;have:=HG3.out.1.lt;omega) k8 (fun b hb e=>by have:=HG3.out.2.2.1;omega),HG3.out.2.2⟩,V6 _,VV (VV (Vb HB.out.2.2) HK3.out fun b hb e=>e) k8 fun b hb e=>by omega⟩
end Go.Proofs.YthpflelgbadkcaaGreatDoor
