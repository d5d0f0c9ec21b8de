/- Two that may come up in either order; a group. -/
import Derived.Test.YthpflelgbadkcaaGreatDoorRewriteTypesP01
import Derived.Test.YthpflelgbadkcaaGreatDoorRewriteTypesP07
import Derived.Test.YthpflelgbadkcaaGreatDoorRewriteTypesP17
set_option maxRecDepth 100000
set_option maxHeartbeats 12800000
set_option linter.unusedVariables false
set_option linter.unusedSimpArgs false
namespace Go.Proofs.YthpflelgbadkcaaGreatDoor
open Go.RowKit Pl
section
variable {P:Program} {ops:Array Oper} {Q:Exit→Act→World→Prop} {md:Region.Mode} {Gs:List (Nat×(World→Prop))}
theorem QT {i j:Nat} {oi oj:Oper} {fuel:Nat} {listed:Array Bool} {a:Act} {w:World} (hcl:Ae md ops listed) (hr:Region.ready md ops listed=[i,j]) (hi:ops[i]? =some oi) (hj:ops[j]? =some oj) (hgi:oi.guard=none) (hgj:oj.guard=none)
  (h1:∀K:Act→World→Prop,(∀a' w',B6 Gs (listed.setIfInBounds i true) w'→(Ae md ops (listed.setIfInBounds i true)→B6 Gs (listed.setIfInBounds i true) w'→BA P md ops Q Gs fuel (listed.setIfInBounds i true) a' w')→K a' w')→oi.wp P a w K Q)
  (h2:∀K:Act→World→Prop,(∀a' w',B6 Gs (listed.setIfInBounds j true) w'→(Ae md ops (listed.setIfInBounds j true)→B6 Gs (listed.setIfInBounds j true) w'→BA P md ops Q Gs fuel (listed.setIfInBounds j true) a' w')→K a' w')→oj.wp P a w K Q):BA P md ops Q Gs (fuel+1) listed a w:=by
 refine⟨(fun h0=>by rw[hr]at h0;cases h0),fun k hk=>?_⟩;have hk':=hk;rw[hr]at hk;have hkk:k=i∨k=j:=by simpa using hk
 rcases hkk with rfl|rfl
 ·unfold wpOp;simp only[hi,Region.wanted,hgi,if_true];exact .inl (h1 _ fun a' w' h3 h4=>⟨h3,h4 (hcl.set hk') h3⟩)
 unfold wpOp;simp only[hj,Region.wanted,hgj,if_true];exact .inl (h2 _ fun a' w' h3 h4=>⟨h3,h4 (hcl.set hk') h3⟩)
end
theorem Hf {o:Oper} {a:Act} {w:World} {K:Act→World→Prop} {Q:Exit→Act→World→Prop} (x:Operand) (ho:o.op= .buildSlice 27 1 #[(0,x)]) {ea:Ex} {a1 a2 a3:Value} (hx:a.eval x= .agg (AC ea a1 a2 a3).toArray)
  (h:∀w',AR w' w.heap.size 29 (AC ea a1 a2 a3).toArray→A4 w w'→K (a.put o.dst (.slice (some ⟨w.heap.size,0,none⟩) 1 1)) w'):o.wp Tryz.prog a w K Q:=by
 obtain⟨i,hi,hz,hs,hby⟩:=info_parts U4.info;refine wp_buildSlice 27 29 1 #[(0,x)] ho (AC ea a1 a2 a3).toArray i IT Tryz.underlying27 hi hz (by rw[hs];decide) (by rw[hs];decide) ?_ (h _ (VW w 29 _) ((VU w).alloc _));rw[hs];simp only[List.map_toArray,List.map_cons,List.map_nil,hx];exact RH ea a1 a2 a3
def Fg:ByteArray:=⟨#[104,111,115,116]⟩
def Do (f:Int) (bys:List ByteArray) (a:Ex):Ex:= .mk 2 f 0 0 0 0 0 ⟨#[]⟩ [] bys [a]
theorem On:Mk Fg:=⟨by unfold SG;decide,by decide⟩
theorem MM {f:Int} (h:0≤f∧f≤3) {a:Ex} {N D:Nat} (ha:Cj N D a) {bys:List ByteArray} (hb:bys=[]∨bys=[Fg]):Cj (1+N) (1+D) (Do f bys a):=by
 have hb1:bys.length≤1∧(∀s∈bys,Mk s)∧Jo bys=true:=by
  rcases hb with rfl|rfl
  ·exact⟨Nat.zero_le _,(fun s hs=>nomatch hs),rfl⟩
  refine⟨V6 _,fun s hs=>by obtain rfl:=VF.1 hs;exact On,by decide⟩
 have z0:BI 0:=Cr.1;refine⟨?_,?_,B3.2 ⟨⟨⟨⟨by unfold BI;show _≤(2:Int)∧(2:Int)≤_;omega,by unfold BI;show _≤f∧f≤_;omega,z0,z0,z0,z0,z0⟩,KZ,(fun m hm=>nomatch hm),hb1.2.1,Nat.zero_le _,by have:=hb1.1;show bys.length≤1000;omega⟩,?_⟩,fun k hk=>?_⟩⟩
 ·show 1+(AH a+0)≤_;have:=ha.1;omega
 ·show max (BN a) 0+1≤_;have:=ha.2.1;omega
 ·have h1:BH (Do f bys a)=true:=by
   rw[EA (Do f bys a) 1 0 bys.length rfl rfl rfl,VM (show ¬(Do f bys a).kind=0 from by show ¬(2:Int)=0;omega),VM (show ¬(Do f bys a).kind=1 from by show ¬(2:Int)=1;omega),VN (show(Do f bys a).kind=2 from rfl)];exact decide_eq_true ⟨h.1,by show f≤4;omega,rfl,rfl,rfl⟩
  have h2:Bs (Do f bys a)=true:=by
   rw[Ek];show(!Cz (Do f bys a)&&([]:List Mt).all BX&&Jo bys)=true;rw[hb1.2.2];rfl
  have h3:Ad (Do f bys a)=true:=by
   unfold Ad;rw[VM (show ¬(Do f bys a).kind=1 from by show ¬(2:Int)=1;omega),VM (show ¬((Do f bys a).kind=2∧(Do f bys a).fn=4)from by show ¬((2:Int)=2∧f=4);omega)];rfl
  unfold Bq;rw[h1,h2,h3,VM (by simp),VM (by simp),VM (show ¬(8<(Do f bys a).ms.length∨8<(Do f bys a).bys.length)from by show ¬(8<0∨8<bys.length);have:=hb1.1;omega)];rfl
 obtain rfl:=VF.1 hk;exact ha.2.2
end Go.Proofs.YthpflelgbadkcaaGreatDoor
