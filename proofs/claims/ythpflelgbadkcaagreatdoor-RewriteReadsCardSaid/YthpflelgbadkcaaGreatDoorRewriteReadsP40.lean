/- Two that may come up in either order; a group. -/
import Derived.Test.YthpflelgbadkcaaGreatDoorRewriteReadsP01
import Derived.Test.YthpflelgbadkcaaGreatDoorRewriteReadsP07
import Derived.Test.YthpflelgbadkcaaGreatDoorRewriteReadsP18
set_option maxRecDepth 100000
set_option maxHeartbeats 12800000
set_option linter.unusedVariables false
set_option linter.unusedSimpArgs false
namespace Go.Proofs.YthpflelgbadkcaaGreatDoor
open Go.RowKit Pl
section
variable {P:Program} {ops:Array Oper} {Q:Exit→Act→World→Prop} {md:Region.Mode} {Gs:List (Nat×(World→Prop))}
theorem OV {i j:Nat} {oi oj:Oper} {fuel:Nat} {listed:Array Bool} {a:Act} {w:World} (hcl:B6 md ops listed) (hr:Region.ready md ops listed=[i,j]) (hi:ops[i]? =some oi) (hj:ops[j]? =some oj) (hgi:oi.guard=none) (hgj:oj.guard=none)
  (h1:∀K:Act→World→Prop,(∀a' w',BV Gs (listed.setIfInBounds i true) w'→(B6 md ops (listed.setIfInBounds i true)→BV Gs (listed.setIfInBounds i true) w'→Bf P md ops Q Gs fuel (listed.setIfInBounds i true) a' w')→K a' w')→oi.wp P a w K Q)
  (h2:∀K:Act→World→Prop,(∀a' w',BV Gs (listed.setIfInBounds j true) w'→(B6 md ops (listed.setIfInBounds j true)→BV Gs (listed.setIfInBounds j true) w'→Bf P md ops Q Gs fuel (listed.setIfInBounds j true) a' w')→K a' w')→oj.wp P a w K Q):Bf P md ops Q Gs (fuel+1) listed a w:=by
 refine⟨(fun h0=>by rw[hr]at h0;cases h0),fun k hk=>?_⟩;have hk':=hk;rw[hr]at hk;have hkk:k=i∨k=j:=by simpa using hk
 rcases hkk with rfl|rfl
 ·unfold wpOp;simp only[hi,Region.wanted,hgi,if_true];exact .inl (h1 _ fun a' w' h3 h4=>⟨h3,h4 (hcl.set hk') h3⟩)
 unfold wpOp;simp only[hj,Region.wanted,hgj,if_true];exact .inl (h2 _ fun a' w' h3 h4=>⟨h3,h4 (hcl.set hk') h3⟩)
end
theorem GI {o:Oper} {a:Act} {w:World} {K:Act→World→Prop} {Q:Exit→Act→World→Prop} (x:Operand) (ho:o.op= .buildSlice 27 1 #[(0,x)]) {ea:Ex} {a1 a2 a3:Value} (hx:a.eval x= .agg (AE ea a1 a2 a3).toArray)
  (h:∀w',Ag w' w.heap.size 29 (AE ea a1 a2 a3).toArray→A5 w w'→K (a.put o.dst (.slice (some ⟨w.heap.size,0,none⟩) 1 1)) w'):o.wp Tryz.prog a w K Q:=by
 obtain⟨i,hi,hz,hs,hby⟩:=info_parts R6.info;refine wp_buildSlice 27 29 1 #[(0,x)] ho (AE ea a1 a2 a3).toArray i F6 Tryz.underlying27 hi hz (by rw[hs];decide) (by rw[hs];decide) ?_ (h _ (Sc w 29 _) ((Sa w).alloc _));rw[hs];simp only[List.map_toArray,List.map_cons,List.map_nil,hx];exact Oc ea a1 a2 a3
def FD:ByteArray:=⟨#[104,111,115,116]⟩
def DY (f:Int) (bys:List ByteArray) (a:Ex):Ex:= .mk 2 f 0 0 0 0 0 ⟨#[]⟩ [] bys [a]
theorem Nw:Li FD:=⟨by unfold QH;decide,by decide⟩
theorem Kj {f:Int} (h:0≤f∧f≤3) {a:Ex} {N D:Nat} (ha:Cf N D a) {bys:List ByteArray} (hb:bys=[]∨bys=[FD]):Cf (1+N) (1+D) (DY f bys a):=by
 have hb1:bys.length≤1∧(∀s∈bys,Li s)∧IA bys=true:=by
  rcases hb with rfl|rfl
  ·exact⟨Nat.zero_le _,(fun s hs=>nomatch hs),rfl⟩
  refine⟨SD _,fun s hs=>by obtain rfl:=SJ.1 hs;exact Nw,by decide⟩
 have z0:Bc 0:=CR.1;refine⟨?_,?_,BA.2 ⟨⟨⟨⟨by unfold Bc;show _≤(2:Int)∧(2:Int)≤_;omega,by unfold Bc;show _≤f∧f≤_;omega,z0,z0,z0,z0,z0⟩,JP,(fun m hm=>nomatch hm),hb1.2.1,Nat.zero_le _,by have:=hb1.1;show bys.length≤1000;omega⟩,?_⟩,fun k hk=>?_⟩⟩
 ·show 1+(AL a+0)≤_;have:=ha.1;omega
 ·show max (BF a) 0+1≤_;have:=ha.2.1;omega
 ·have h1:BN (DY f bys a)=true:=by
   rw[Dq (DY f bys a) 1 0 bys.length rfl rfl rfl,SQ (show ¬(DY f bys a).kind=0 from by show ¬(2:Int)=0;omega),SQ (show ¬(DY f bys a).kind=1 from by show ¬(2:Int)=1;omega),SR (show(DY f bys a).kind=2 from rfl)];exact decide_eq_true ⟨h.1,by show f≤4;omega,rfl,rfl,rfl⟩
  have h2:Bo (DY f bys a)=true:=by
   rw[EY];show(!Cn (DY f bys a)&&([]:List Mt).all BU&&IA bys)=true;rw[hb1.2.2];rfl
  have h3:Ai (DY f bys a)=true:=by
   unfold Ai;rw[SQ (show ¬(DY f bys a).kind=1 from by show ¬(2:Int)=1;omega),SQ (show ¬((DY f bys a).kind=2∧(DY f bys a).fn=4)from by show ¬((2:Int)=2∧f=4);omega)];rfl
  unfold Bj;rw[h1,h2,h3,SQ (by simp),SQ (by simp),SQ (show ¬(8<(DY f bys a).ms.length∨8<(DY f bys a).bys.length)from by show ¬(8<0∨8<bys.length);have:=hb1.1;omega)];rfl
 obtain rfl:=SJ.1 hk;exact ha.2.2
end Go.Proofs.YthpflelgbadkcaaGreatDoor
