/- What the card of the law stands on: Ord, RMul, RAdd, RDiv, RApp, FoldPl, ValPl. -/
import Derived.Test.YthpflelgbadkcaaGreatDoorRewriteTypesP01
import Derived.OrdersHeld
import Derived.StillTail
import Derived.Test.YthpflelgbadkcaaGreatDoorRewriteTypesP02
set_option maxRecDepth 100000
set_option maxHeartbeats 12800000
set_option linter.unusedVariables false
set_option linter.unusedSimpArgs false
namespace Go.Proofs.YthpflelgbadkcaaGreatDoor
open Go Go.RowKit
section
variable {P:Program} {ops:Array Oper} {Q:Exit→Act→World→Prop} {md:Region.Mode}
def R9 (md:Region.Mode) (ops:Array Oper) (m i:Nat):Bool:=match ops[i]? with
 |some o=>o.guard.isNone&&(o.op.operands.all fun x=>match x with
   | .tmp t=>(List.range m).all fun j=>(match ops[j]? with|some oj=>oj.dst !=some t||Region.waitsFor md ops i j|none=>true)
   |_=>true)
 |none=>false
def MO (md:Region.Mode) (ops:Array Oper):Bool:=(List.range ops.size).all fun i=>match ops[i]? with
 |some o=>o.after.all fun e=> !Region.binds md e||decide (e.on<i)
 |none=>true
def Ty (md:Region.Mode) (ops:Array Oper) (m:Nat):Bool:=(List.range ops.size).all fun i=>decide (i<m)||(List.range m).all fun j=>Region.waitsFor md ops i j
def J4 (md:Region.Mode) (ops:Array Oper) (m:Nat):Bool:=decide (m≤ops.size)&&(List.range m).all (R9 md ops m)&&MO md ops&&Ty md ops m
def EG:Nat→Array Bool→Nat
 |0,_=>0
 |k+1,l=>EG k l+if l.getD k false then 0 else 1
theorem EY {l:Array Bool} {i:Nat} (h:i<l.size):(l.setIfInBounds i true).getD i false=true:=by simp[Array.getD,h]
theorem O5 (l:Array Bool):∀(m i:Nat),m≤i→EG m (l.setIfInBounds i true)=EG m l
 |0,_,_=>rfl
 |m+1,i,h=>by
  unfold EG;rw[O5 l m i (by omega),getD_set_ne false (by omega)]
theorem Gx (l:Array Bool):∀(m i:Nat),i<m→i<l.size→l.getD i false=false→EG m (l.setIfInBounds i true)+1=EG m l
 |0,_,h,_,_=>absurd h (by omega)
 |m+1,i,h,hs,hl=>by
  unfold EG;by_cases he:i=m
  ·subst he;rw[O5 l i i (V6 _),EY hs,hl];simp
  rw[getD_set_ne false he];have:=Gx l m i (by omega) hs hl;omega
theorem Et {l:Array Bool}:∀{m:Nat},EG m l=0→∀j,j<m→l.getD j false=true
 |0,_,j,hj=>absurd hj (by omega)
 |m+1,h,j,hj=>by
  unfold EG at h;by_cases he:j=m
  ·subst he;cases hg:l.getD j false with
   |true=>rfl
   |false=>rw[hg]at h;simp at h
  exact Et (m:=m) (by omega) j (by omega)
theorem Hb {l:Array Bool}:∀{m:Nat},0<EG m l→∃j,j<m∧l.getD j false=false
 |0,h=>absurd h (by simp[EG])
 |m+1,h=>by
  unfold EG at h;cases hg:l.getD m false with
  |false=>exact⟨m,by omega,hg⟩
  |true=>
   rw[hg]at h;obtain⟨j,hj,hl⟩:=Hb (m:=m) (by simpa using h);exact⟨j,by omega,hl⟩
def EL (n m:Nat):Array Bool:=((List.range n).map fun i=>decide (i<m)).toArray
theorem L0 {l:Array Bool} {m n:Nat} (hs:l.size=n) (h1:∀j,j<m→l.getD j false=true) (h2:∀i,m≤i→l.getD i false=false):l=EL n m:=by
 apply Array.ext
 ·simp[EL,hs]
 intro i hi hi2;have e:l[i]=l.getD i false:=by simp[Array.getD,hi]
 rw[e];simp only[EL,List.getElem_toArray,List.getElem_map,List.getElem_range];by_cases h:i<m
 ·rw[h1 i h];simp[h]
 rw[h2 i (by omega)];simp[h]
structure U0 (ops:Array Oper) (m:Nat) (ia:Option Nat) (G:Nat→Act) (w0:World) (B:Nat→World→Prop) (listed:Array Bool) (a:Act) (w:World):Prop where
 ex:∃z,(∀k,(∀j o,j<m→ops[j]? =some o→o.dst=some k→listed.getD j false=true)→a.tmps[k]? =(G z).tmps[k]?)∧a.tmps.size=(G z).tmps.size∧a.defers=(G z).defers∧(∀i,ia=some i→listed.getD i false=true→B z w)
 grew:A4 w0 w
 size:listed.size=ops.size
 tail:∀i,m≤i→listed.getD i false=false
theorem C0 {a:Act} {d k:Tmp} {v:Value}:(a.put (some d) v).tmps[k]? =if d=k then(if d<a.tmps.size then some v else none)else a.tmps[k]? :=by
 simp only[Act.put];rw[Array.getElem?_setIfInBounds]
theorem CP (hb:MO md ops=true) {listed:Array Bool} (hsz:listed.size=ops.size):∀n i,i≤n→i<ops.size→listed.getD i false=false→Region.ready md ops listed≠[]:=by
 intro n
 induction n with
 |zero=>
  intro i hi hlt hl;obtain rfl:i=0:=by omega
  refine List.ne_nil_of_mem (a:=0) (mem_ready.2 ⟨?_,ops[0],Array.getElem?_eq_getElem hlt,fun e he hbd=>?_⟩)
  ·simpa[Array.getD,hsz,hlt]using hl
  have h:=List.all_eq_true.1 hb 0 (List.mem_range.2 hlt);rw[Array.getElem?_eq_getElem hlt]at h;have h2:=Array.all_eq_true'.1 h e he;simp[hbd]at h2
 |succ n ih=>
  intro i hi hlt hl;by_cases hall:∀e∈(ops[i]'hlt).after,Region.binds md e=true→listed.getD e.on false=true
  ·refine List.ne_nil_of_mem (a:=i) (mem_ready.2 ⟨?_,ops[i],Array.getElem?_eq_getElem hlt,hall⟩);simpa[Array.getD,hsz,hlt]using hl
  simp only[Classical.not_forall]at hall;obtain⟨e,he,hbd,hno⟩:=hall;have h:=List.all_eq_true.1 hb i (List.mem_range.2 hlt);rw[Array.getElem?_eq_getElem hlt]at h;have h2:=Array.all_eq_true'.1 h e he;simp only[hbd,Bool.not_true,Bool.false_or,decide_eq_true_eq]at h2;exact ih e.on (by omega) (by omega) (by simpa using hno)
theorem Cv {o:Oper} (hns:∀cs b,o.op≠.select cs b) {a g:Act} {w:World} {R:World→Prop} {K:Act→World→Prop} (h:o.wp P g w (fun a' w'=>a'=g∧R w') (fun _ _ _=>False))
  (hops:∀x∈o.op.operands,a.eval x=g.eval x) (hK:∀v w',g.put o.dst v=g→R w'→K (a.put o.dst v) w'):o.wp P a w K Q:=by
 unfold Oper.wp at*;rw[execOp_congr o hns hops];generalize (execOp g.eval o).run P w=r at*;cases r with
 |ok n w'=>
  cases n with
  |value u=>exact hK u w' h.1 h.2
  |skip=>exact hK undef w' h.1 h.2
  |defer d=>
   exfalso;have h1:=congrArg Act.defers h.1;have h2:(({ g with defers:=d::g.defers }:Act).put o.dst undef).defers=d::g.defers:=by cases o.dst<;>rfl
   rw[h2]at h1;have:=congrArg List.length h1;simp at this
  |enter f args=>
   refine Calls.mono h fun e w'' he=>?_
   cases e with
   |returned v=>exact hK v w'' he.1 he.2
   |panicked c=>exact he.elim
   |outgrown=>obtain⟨_,_,h0⟩:=he;exact h0.elim
  |row r args=>exact Rows.mono h fun v w'' he=>hK v w'' he.1 he.2
  |_=>exact False.elim h
 |halt x w'=>
  cases x<;>exact False.elim h
theorem IH {m:Nat} (hB0:J4 md ops m=true) (hs:Region.noSelect ops=true) (ia:Option Nat) (d8:Tmp) (G:Nat→Act) (w0:World) (B:Nat→World→Prop)
  (hGk:∀z z' k,k≠d8→(G z).tmps[k]? =(G z').tmps[k]?) (hGs:∀z z',(G z).tmps.size=(G z').tmps.size) (hGd:∀z z',(G z).defers=(G z').defers)
  (hBg:∀z w w',B z w→A4 w w'→B z w')
  (hst:∀i o,i<m→ia≠some i→ops[i]? =some o→∀z w,A4 w0 w→o.wp P (G z) w (fun a' w'=>a'=G z∧A4 w w') (fun _ _ _=>False))
  (hal:∀i o,ia=some i→ops[i]? =some o→o.dst=some d8∧(∀z,(G z).tmps[d8]? =some (.pointer (some ⟨z,0,none⟩)))∧∀a w K,A4 w0 w→(∀z w',A4 w w'→B z w'→K (a.put (some d8) (.pointer (some ⟨z,0,none⟩))) w')→o.wp P a w K Q)
  (T:∀z w fuel,A4 w0 w→(∀i,ia=some i→B z w)→ops.size≤m+fuel→wpAny P md ops Q fuel (EL ops.size m) (G z) w) (hia:∀i,ia=some i→i<m):
  ∀fuel listed a w,U0 ops m ia G w0 B listed a w→EG m listed+(ops.size-m)≤fuel→wpAny P md ops Q fuel listed a w:=by
 unfold J4 at hB0;simp only[Bool.and_eq_true,decide_eq_true_eq]at hB0;obtain⟨⟨⟨hmn,hhd⟩,hbk⟩,htl⟩:=hB0;have hdone:∀fuel listed a w,U0 ops m ia G w0 B listed a w→EG m listed=0→ops.size≤m+fuel→wpAny P md ops Q fuel listed a w:=by
  intro fuel listed a w hI h0 hf;obtain⟨z,hk,hsz,hdf,hBz⟩:=hI.ex;have hall:=Et h0;have ha:a=G z:=by
   have ht:a.tmps=(G z).tmps:=Array.ext_getElem? fun k=>hk k fun j o hj _ _=>hall j hj
   cases a;cases hg:G z;rw[hg]at ht hdf;simp at ht hdf;rw[ht,hdf]
  rw[ha,L0 hI.size hall hI.tail];exact T z w fuel hI.grew (fun i hi=>hBz i hi (hall i (hia i hi))) hf
 intro fuel
 induction fuel with
 |zero=>intro listed a w hI hc;exact hdone 0 listed a w hI (by omega) (by omega)
 |succ fuel ih=>
  intro listed a w hI hc;rcases Nat.eq_zero_or_pos (EG m listed)with h0|hpos
  ·exact hdone (fuel+1) listed a w hI h0 (by omega)
  obtain⟨j0,hj0,hl0⟩:=Hb hpos;refine⟨fun hr=>absurd hr (CP hbk hI.size j0 j0 (V6 _) (by omega) hl0),fun i hi=>?_⟩;obtain⟨hun,oi,hoi,hdep⟩:=mem_ready.1 hi;have hisz:i<ops.size:=(VK.1 hoi).1;have hun':listed.getD i false=false:=getD_both hun;have him:i<m:=by
   rcases Nat.lt_or_ge i m with h|h
   ·exact h
   exfalso;have h1:=List.all_eq_true.1 htl i (List.mem_range.2 hisz);simp only[Bool.or_eq_true,decide_eq_true_eq,List.all_eq_true,List.mem_range]at h1;rcases h1 with h1|h1
   ·omega
   have hall:∀j,j<m→listed.getD j false=true:=fun j hj=>by
    obtain⟨o',ho',e,he,hbd,hon⟩:=Region.waitsFor_spec (h1 j hj);obtain rfl:oi=o':=VE (hoi.symm.trans ho');rw[←hon];exact hdep e he hbd
   have:∀k,k≤m→EG k listed=0:=by
    intro k
    induction k with
    |zero=>intro _;rfl
    |succ k ihk=>intro hk;unfold EG;rw[ihk (by omega),hall k (by omega)];rfl
   have:=this m (V6 _);omega
  have hhi:=List.all_eq_true.1 hhd i (List.mem_range.2 him);unfold R9 at hhi;simp only[hoi,Bool.and_eq_true]at hhi;obtain⟨hgd,hopr⟩:=hhi;have hgd':oi.guard=none:=by simpa using hgd
  have hc':EG m (listed.setIfInBounds i true)+1=EG m listed:=Gx listed m i him (by rw[hI.size];exact hisz) hun';have htl':∀j,m≤j→(listed.setIfInBounds i true).getD j false=false:=fun j hj=>by rw[getD_set_ne false (by omega)];exact hI.tail j hj
  have hsz':(listed.setIfInBounds i true).size=ops.size:=by rw[Array.size_setIfInBounds,hI.size]
  obtain⟨z,hk,hsz,hdf,hBz⟩:=hI.ex;unfold wpOp;simp only[hoi];rw[VN (by simp[Region.wanted,hgd'])];refine .inl ?_;by_cases hii:ia=some i
  ·obtain⟨hd,hG8,hal⟩:=hal i oi hii hoi;refine hal a w _ hI.grew fun z' w' hg hb=>ih _ _ _ ⟨⟨z',fun k hkk=>?_,?_,?_,fun _ _ _=>hb⟩,hI.grew.trans hg,hsz',htl'⟩ (by omega)
   ·rw[C0];by_cases hdk:d8=k
    ·subst hdk;rw[VN rfl];have h1:=hG8 z';have h2:d8<a.tmps.size:=by
      rw[hsz,hGs z z'];exact(VK.1 h1).1
     rw[VN h2,h1]
    rw[VM hdk,hGk z' z k (fun e=>hdk e.symm)];refine hk k fun j o hj ho hod=>?_
    have h1:=hkk j o hj ho hod;by_cases hij:i=j
    ·subst hij;obtain rfl:oi=o:=VE (hoi.symm.trans ho);rw[hd]at hod;exact absurd (VE hod) hdk
    rwa[getD_set_ne false hij]at h1
   ·simp only[Act.put,Array.size_setIfInBounds];rw[hsz,hGs z z']
   simp only[Act.put];rw[hdf,hGd z z']
  have hst:=hst i oi him hii hoi z w hI.grew;refine Cv (fun cs b=>Region.noSelect_spec hs i oi cs b hoi) hst (fun x hx=>?_) fun v w' hv hg=>ih _ _ _ ⟨⟨z,fun k hkk=>?_,?_,?_,fun i' hi' hl'=>?_⟩,hI.grew.trans hg,hsz',htl'⟩ (by omega)
  ·cases x with
   |tmp t=>
    have h1:=Array.all_eq_true'.1 hopr _ hx;simp only[List.all_eq_true,List.mem_range]at h1;have h2:a.tmps[t]? =(G z).tmps[t]? :=hk t fun j o hj ho hod=>by
     have h3:=h1 j hj;simp only[ho,hod]at h3;have h4:Region.waitsFor md ops i j=true:=by simpa using h3
     obtain⟨o',ho',e,he,hbd,hon⟩:=Region.waitsFor_spec h4;obtain rfl:oi=o':=VE (hoi.symm.trans ho');rw[←hon];exact hdep e he hbd
    simp only[Act.eval,Array.getD_eq_getD_getElem?,h2]
   |_=>rfl
  ·cases hd:oi.dst with
   |none=>
    refine hk k fun j o hj ho hod=>?_
    have h1:=hkk j o hj ho hod;by_cases hij:i=j
    ·subst hij;obtain rfl:oi=o:=VE (hoi.symm.trans ho);rw[hd]at hod;cases hod
    rwa[getD_set_ne false hij]at h1
   |some d=>
    rw[hd]at hv;rw[C0];by_cases hdk:d=k
    ·subst hdk;rw[VN rfl];have h1:((G z).put (some d) v).tmps[d]? =(G z).tmps[d]? :=by rw[hv]
     rw[C0,VN rfl]at h1;rw[←h1,hsz]
    rw[VM hdk];refine hk k fun j o hj ho hod=>?_
    have h1:=hkk j o hj ho hod;by_cases hij:i=j
    ·subst hij;obtain rfl:oi=o:=VE (hoi.symm.trans ho);rw[hd]at hod;exact absurd (VE hod) hdk
    rwa[getD_set_ne false hij]at h1
  ·cases oi.dst with
   |none=>exact hsz
   |some d=>simp only[Act.put,Array.size_setIfInBounds];exact hsz
  ·cases oi.dst with
   |none=>exact hdf
   |some d=>exact hdf
  have hne:i≠i':=fun e=>hii (by rw[e,hi'])
  rw[getD_set_ne false hne]at hl';exact hBg z w w' (hBz i' hi' hl') hg
def Af:List Oper→List Value→Act→Act
 |o::os,v::vs,a=>Af os vs (a.put o.dst v)
 |_,_,a=>a
theorem CR:∀(os:List Oper) (vs:List Value) (a:Act) (k:Tmp),(∀o∈os,o.dst≠some k)→(Af os vs a).tmps[k]? =a.tmps[k]?
 |[],_,_,_,_=>rfl
 |_::_,[],_,_,_=>rfl
 |o::os,v::vs,a,k,h=>by
  unfold Af;rw[CR os vs _ k fun o' ho'=>h o' (List.mem_cons_of_mem _ ho')];have h1:=h o List.mem_cons_self;cases hd:o.dst with
  |none=>rfl
  |some d=>
   rw[C0,VM];intro e;rw[hd,e]at h1;exact h1 rfl
theorem E6 (a:Act) (d:Option Tmp) (v:Value):(a.put d v).tmps.size=a.tmps.size∧(a.put d v).defers=a.defers:=by
 cases d with
 |none=>exact⟨rfl,rfl⟩
 |some d=>exact⟨by simp[Act.put],rfl⟩
theorem BD:∀(os:List Oper) (vs:List Value) (a:Act),(Af os vs a).tmps.size=a.tmps.size∧(Af os vs a).defers=a.defers
 |[],_,_=>⟨rfl,rfl⟩
 |_::_,[],_=>⟨rfl,rfl⟩
 |o::os,v::vs,a=>by
  unfold Af;obtain⟨h1,h2⟩:=BD os vs (a.put o.dst v);obtain⟨h3,h4⟩:=E6 a o.dst v;exact⟨h1.trans h3,h2.trans h4⟩
def Cu (P:Program) (w0:World) (ia:Option Nat) (G:Nat→Act):Nat→List Oper→Prop
 |_,[]=>True
 |i,o::r=>(ia≠some i→∀z w,A4 w0 w→o.wp P (G z) w (fun a' w'=>a'=G z∧A4 w w') (fun _ _ _=>False))∧Cu P w0 ia G (i+1) r
theorem DU {w0:World} {ia:Option Nat} {G:Nat→Act} {i:Nat}:Cu P w0 ia G i []:=trivial
theorem AN {w0:World} {ia:Option Nat} {G:Nat→Act} {i:Nat} {o:Oper} {r:List Oper} (h:∀z w,A4 w0 w→o.wp P (G z) w (fun a' w'=>a'=G z∧A4 w w') (fun _ _ _=>False)) (h2:Cu P w0 ia G (i+1) r):Cu P w0 ia G i (o::r):=⟨fun _=>h,h2⟩
theorem Fd {w0:World} {G:Nat→Act} {i:Nat} {o:Oper} {r:List Oper} (h2:Cu P w0 (some i) G (i+1) r):Cu P w0 (some i) G i (o::r):=⟨fun e=>absurd rfl e,h2⟩
theorem F7 {w0:World} {ia:Option Nat} {G:Nat→Act}:∀{l:List Oper} {n:Nat},Cu P w0 ia G n l→∀i o,l[i]? =some o→ia≠some (n+i)→∀z w,A4 w0 w→o.wp P (G z) w (fun a' w'=>a'=G z∧A4 w w') (fun _ _ _=>False)
 |[],_,_,_,_,h,_=>by simp at h
 |_::_,n,h,0,o,ho,hne=>by
  obtain rfl:=VE ho;exact h.1 hne
 |_::r,n,h,i+1,o,ho,hne=>F7 h.2 i o (by simpa using ho) (by rwa[Nat.add_assoc,Nat.add_comm 1])
theorem Jl {m:Nat} {o:Oper} {l:Array Bool} {a:Act} {w:World} (hr1:Region.ready md ops l=[m]) (hr2:Region.ready md ops (l.setIfInBounds m true)=[]) (ho:ops[m]? =some o) (hgd:o.guard=none)
  (h:o.wp P a w (fun a' w'=>Q .normal a' w') Q):∀fuel,1≤fuel→wpAny P md ops Q fuel l a w
 |0,hf=>absurd hf (by omega)
 |fuel+1,_=>by
  refine⟨fun h0=>(by rw[hr1]at h0;cases h0),fun i hi=>?_⟩;rw[hr1]at hi;obtain rfl:i=m:=by simpa using hi
  unfold wpOp;simp only[ho];rw[VN (by simp[Region.wanted,hgd])];refine .inl ?_;have e:(fun a' w'=>Q .normal a' w')=wpAny P md ops Q fuel (l.setIfInBounds i true):=by
   cases fuel with
   |zero=>funext a' w';simp[wpAny,hr2]
   |succ f=>funext a' w';simp[wpAny,hr2]
  rwa[←e]
theorem EU {o:Oper} {a:Act} {w:World} {K:Act→World→Prop} (T:TypeId) (x y:Operand) (g:Nat) (vs us:List Value) (t:TypeId) (hT:(P.info? T).map (·.size)=some vs.length) (hl:us.length=vs.length) (h1:∀v∈vs,v.oneCell'=true) (ho:o.op= .store T x y)
  (hx:a.eval x= .pointer (some ⟨g,0,none⟩)) (hy:a.eval y= .agg vs.toArray) (hb:AR w g t us.toArray)
  (h:∀w',AR w' g t vs.toArray→AA (fun i=>i=g) w w'→K (a.put o.dst undef) w'):o.wp P a w K Q:=by
 refine wp_store_mid T x y ho g 0 vs.toArray hx hy (by simpa using hb.thereN 0 vs.length (by omega)) (by simpa using hT) (all_oneCell_toArray h1) ?_;have hp:=hb.putN vs 0 (by omega);have e:us.take 0++vs++us.drop (0+vs.length)=vs:=by simp[←hl]
 rw[e]at hp;exact h _ hp (C3 g vs 0 w).1
theorem Fr {id:Nat} {a:Act} {w:World} (hm:P.follows .mixedOrders=true) (m ia:Nat) (d8:Tmp) (vals:List Value) (ty:TypeId) (zs:List Value) (G:Nat→Act) (hB0:J4 .any ops m=true) (hs:Region.noSelect ops=true) (hia:ia<m) (hn:ops.size=m+1)
  (hG:G=fun z=>(Af (ops.toList.take m) vals a).put (some d8) (.pointer (some ⟨z,0,none⟩))) (hd8:d8<a.tmps.size) (hda:(ops[ia]?).map (·.dst)=some (some d8))
  (hH:Cu P w.drew (some ia) G 0 (ops.toList.take m))
  (hal:∀o,ops[ia]? =some o→∀a w K,(∀w',w'=w.alloc (.cells zs.toArray ty)→K (a.put o.dst (.pointer (some ⟨w.heap.size,0,none⟩))) w')→o.wp P a w K Q)
  (vs:List Value) (x y:Operand) (T:TypeId) (o:Oper) (ho:ops[m]? =some o) (hgd:o.guard=none) (hop:o.op= .store T x y) (hd:o.dst=none) (hT:(P.info? T).map (·.size)=some vs.length) (hl:zs.length=vs.length) (h1:∀v∈vs,v.oneCell'=true)
  (hx:∀z,(G z).eval x= .pointer (some ⟨z,0,none⟩)) (hy:∀z,(G z).eval y= .agg vs.toArray)
  (hr1:Region.ready .any ops (EL ops.size m)=[m]) (hr2:Region.ready .any ops ((EL ops.size m).setIfInBounds m true)=[])
  (h:∀z w',w.heap.size≤z→AR w' z ty vs.toArray→A4 w w'→Q .normal (G z) w'):(Code.region id ops true).wp P Q a w:=by
 refine wp_region_any hm ?_;have hsz:∀z,(G z).tmps.size=a.tmps.size:=fun z=>by rw[hG];exact(E6 _ _ _).1.trans (BD _ _ _).1
 have hdf:∀z,(G z).defers=a.defers:=fun z=>by rw[hG];exact(E6 _ _ _).2.trans (BD _ _ _).2
 refine IH (m:=m) hB0 hs (some ia) d8 G w.drew (fun z w'=>AR w' z ty zs.toArray∧w.heap.size≤z) ?_ (fun z z'=>by rw[hsz,hsz]) (fun z z'=>by rw[hdf,hdf]) (fun z w1 w2 hb hg=>⟨hb.1.grew hg,hb.2⟩) ?_ ?_ ?_ (fun i hi=>by cases hi;exact hia) ops.size _ _ _ ⟨⟨0,?_,(hsz 0).symm,(hdf 0).symm,?_⟩,VU _,by simp,?_⟩ ?_
 ·intro z z' k hk;rw[hG];simp only[C0];rw[VM (fun e=>hk e.symm),VM (fun e=>hk e.symm)]
 ·intro i o' him hne ho' z w1 hg;exact F7 hH i o' (by rw[List.getElem?_take,VN him];simpa using ho') (by simpa using hne) z w1 hg
 ·intro i o' hi ho';cases hi;rw[ho']at hda;have hdo:o'.dst=some d8:=by simpa using hda
  refine⟨hdo,fun z=>?_,fun a1 w1 K hg hK=>?_⟩
  ·rw[hG];simp only[C0];rw[VN trivial,VN];rw[(BD _ _ _).1];exact hd8
  refine hal o' ho' a1 w1 K fun w' hw'=>?_
  subst hw';rw[hdo];exact hK _ _ ((VU w1).alloc _) ⟨VW w1 ty zs.toArray,hg.size⟩
 ·intro z w1 fuel hg hb hf;obtain⟨hb,hz⟩:=hb ia rfl;refine Jl hr1 hr2 ho hgd (EU T x y z vs zs ty hT hl h1 hop (hx z) (hy z) hb fun w2 k1 k2=>?_) fuel (by omega);have e:(G z).put o.dst undef=G z:=by rw[hd];rfl
  rw[e];refine h z w2 hz k1 ?_;have hg':A4 w w1:=(VX (VU w)).trans hg;exact VV hg' k2 (fun i hi e=>by omega)
 ·intro k hk;rw[hG];simp only[];rw[C0];by_cases hkd:d8=k
  ·exfalso;subst hkd;have hex:∃o',ops[ia]? =some o'∧o'.dst=some d8:=by
    cases ho':ops[ia]? with
    |none=>rw[ho']at hda;cases hda
    |some o'=>rw[ho']at hda;exact⟨o',rfl,by simpa using hda⟩
   obtain⟨o',ho',hdo⟩:=hex;have:=hk ia o' hia ho' hdo;rw[getD_replicate_false]at this;cases this
  rw[VM hkd];refine(CR _ _ _ _ fun o' ho' hdo=>?_).symm;obtain⟨j,hj⟩:=List.getElem?_of_mem ho';rw[List.getElem?_take]at hj;split at hj
  ·rename_i hjm
   have:=hk j o' hjm (by simpa using hj) hdo;rw[getD_replicate_false]at this;cases this
  cases hj
 ·intro i hi hl';rw[getD_replicate_false]at hl';cases hl'
 ·intro i hi;rw[getD_replicate_false]
 have:∀k,EG k (Array.replicate ops.size false)≤k:=by
  intro k
  induction k with
  |zero=>exact V6 _
  |succ k ih=>unfold EG;split<;>omega
 have:=this m;omega
theorem Jj {id:Nat} {a:Act} {w:World} (hm:P.follows .mixedOrders=true) (m:Nat) (vals:List Value) (G:Act) (hB0:J4 .any ops m=true) (hs:Region.noSelect ops=true) (hn:ops.size=m+1)
  (hG:G=Af (ops.toList.take m) vals a) (hH:Cu P w.drew none (fun _=>G) 0 (ops.toList.take m))
  (d5:Tmp) (o:Oper) (ho:ops[m]? =some o) (hd5:o.dst=some d5) (hgd:o.guard=none) (v:Value) (hv:∀w',(execOp G.eval o).run P w'= .ok (.value v) w')
  (hr1:Region.ready .any ops (EL ops.size m)=[m]) (hr2:Region.ready .any ops ((EL ops.size m).setIfInBounds m true)=[])
  (h:∀w1,A4 w w1→Q .normal (G.put (some d5) v) w1):(Code.region id ops true).wp P Q a w:=by
 refine wp_region_any hm ?_;have hsz:G.tmps.size=a.tmps.size:=by rw[hG];exact(BD _ _ _).1
 have hdf:G.defers=a.defers:=by rw[hG];exact(BD _ _ _).2
 refine IH (m:=m) hB0 hs none 0 (fun _=>G) w.drew (fun _ _=>True) (fun _ _ _ _=>rfl) (fun _ _=>rfl) (fun _ _=>rfl) (fun _ _ _ _ _=>trivial) ?_ (fun _ _ hi=>by cases hi) ?_ (fun i hi=>by cases hi) ops.size _ _ _ ⟨⟨0,?_,hsz.symm,hdf.symm,fun _ hi=>by cases hi⟩,VU _,by simp,?_⟩ ?_
 ·intro i o' him hne ho' z w1 hg;exact F7 hH i o' (by rw[List.getElem?_take,VN him];simpa using ho') (by simp) z w1 hg
 ·intro z w1 fuel hg _ hf;have hg':A4 w w1:=(VX (VU w)).trans hg;refine Jl hr1 hr2 ho hgd ?_ fuel (by omega);unfold Oper.wp;rw[hv];have:=h w1 hg';rw[←hd5]at this;exact this
 ·intro k hk;rw[hG];refine(CR _ _ _ _ fun o' ho' hdo=>?_).symm;obtain⟨j,hj⟩:=List.getElem?_of_mem ho';rw[List.getElem?_take]at hj;split at hj
  ·rename_i hjm
   have:=hk j o' hjm (by simpa using hj) hdo;rw[getD_replicate_false]at this;cases this
  cases hj
 ·intro i hi;rw[getD_replicate_false]
 have:∀k,EG k (Array.replicate ops.size false)≤k:=by
  intro k
  induction k with
  |zero=>exact V6 _
  |succ k ih=>unfold EG;split<;>omega
 have:=this m;omega
theorem Jr {id:Nat} {a:Act} {w:World} (hm:P.follows .mixedOrders=true) (vals:List Value) (G:Act) (hB0:J4 .any ops ops.size=true) (hs:Region.noSelect ops=true)
  (hG:G=Af ops.toList vals a) (hH:Cu P w.drew none (fun _=>G) 0 ops.toList) (hr:Region.ready .any ops (EL ops.size ops.size)=[])
  (h:∀w1,A4 w w1→Q .normal G w1):(Code.region id ops true).wp P Q a w:=by
 refine wp_region_any hm ?_;have hsz:G.tmps.size=a.tmps.size:=by rw[hG];exact(BD _ _ _).1
 have hdf:G.defers=a.defers:=by rw[hG];exact(BD _ _ _).2
 refine IH (m:=ops.size) hB0 hs none 0 (fun _=>G) w.drew (fun _ _=>True) (fun _ _ _ _=>rfl) (fun _ _=>rfl) (fun _ _=>rfl) (fun _ _ _ _ _=>trivial) ?_ (fun _ _ hi=>by cases hi) ?_ (fun i hi=>by cases hi) ops.size _ _ _ ⟨⟨0,?_,hsz.symm,hdf.symm,fun _ hi=>by cases hi⟩,VU _,by simp,?_⟩ ?_
 ·intro i o' him hne ho' z w1 hg;exact F7 hH i o' (by simpa using ho') (by simp) z w1 hg
 ·intro z w1 fuel hg _ hf;have hg':A4 w w1:=(VX (VU w)).trans hg;cases fuel with
  |zero=>exact⟨hr,h w1 hg'⟩
  |succ f=>exact⟨fun _=>h w1 hg',by rw[hr];simp⟩
 ·intro k hk;rw[hG];refine(CR _ _ _ _ fun o' ho' hdo=>?_).symm;obtain⟨j,hj⟩:=List.getElem?_of_mem ho';have hjs:ops[j]? =some o':=by simpa using hj
  have:=hk j o' (VK.1 hjs).1 hjs hdo;rw[getD_replicate_false]at this;cases this
 ·intro i hi;rw[getD_replicate_false]
 have:∀k,EG k (Array.replicate ops.size false)≤k:=by
  intro k
  induction k with
  |zero=>exact V6 _
  |succ k ih=>unfold EG;split<;>omega
 have:=this ops.size;omega
end
end Go.Proofs.YthpflelgbadkcaaGreatDoor
namespace Go.Proofs.YthpflelgbadkcaaGreatDoor
open Go.RowKit Pl
def EV (op n1 d1 n2 d2:Int):Int×Int×Int:=if op=0 then Em n1 d1 n2 d2 else if op=1 then Jx n1 d1 n2 d2 else if op=2 then EH n1 d1 n2 d2 else Hy n1 d1 n2 d2
end Go.Proofs.YthpflelgbadkcaaGreatDoor
namespace Go.Proofs.YthpflelgbadkcaaGreatDoor
open Pl
mutual
def BW (p:Ex→Prop):Ex→Prop
 | .mk k f w o q n d nm ms bs ks=>p (.mk k f w o q n d nm ms bs ks)∧MV p ks
def MV (p:Ex→Prop):List Ex→Prop
 |[]=>True
 |e::es=>BW p e∧MV p es
end
theorem Ka {p:Ex→Prop}:∀{es:List Ex},MV p es↔∀e∈es,BW p e
 |[]=>by unfold MV;simp
 |e::es=>by unfold MV;rw[Ka];simp
theorem B3 {p:Ex→Prop} {e:Ex}:BW p e↔p e∧∀k∈e.kids,BW p k:=by
 cases e;rw[BW,Ka];rfl
theorem BW.top {p:Ex→Prop} {e:Ex} (h:BW p e):p e:=(B3.1 h).1
theorem BW.kid {p:Ex→Prop} {e k:Ex} (h:BW p e) (hk:k∈e.kids):BW p k:=(B3.1 h).2 k hk
theorem BW.mono {p q:Ex→Prop} (hpq:∀e,p e→q e):∀(n:Nat) (e:Ex),AH e≤n→BW p e→BW q e
 |0,e,h,_=>absurd (Aj e) (by omega)
 |n+1,e,h,hp=>B3.2 ⟨hpq e hp.top,fun k hk=>BW.mono hpq n k (by
   have h1:=AT hk;have h2:AH e=1+Ar e.kids:=by cases e;rw[AH];rfl
   omega) (hp.kid hk)⟩
def Ji (e:Ex):Prop:=BI e.kind∧BI e.fn∧BI e.window∧BI e.offset∧BI e.k∧BI e.num∧BI e.den
def Sm (e:Ex):Prop:=e.kind=3→e.kids.length=2∧0≤e.fn∧e.fn≤3
def Ex.withKids:Ex→List Ex→Ex
 | .mk k f w o q n d nm ms bs _,ks=> .mk k f w o q n d nm ms bs ks
section
variable (e:Ex) (ks:List Ex)
theorem Cc:(e.withKids ks).kind=e.kind:=by cases e;rfl
theorem Mg:(e.withKids ks).fn=e.fn:=by cases e;rfl
theorem Bp:(e.withKids ks).kids=ks:=by cases e;rfl
theorem MZ (h:Ji e):Ji (e.withKids ks):=by cases e;exact h
theorem Lq:(e.withKids ks).ms=e.ms:=by cases e;rfl
theorem Iu:(e.withKids ks).bys=e.bys:=by cases e;rfl
end
theorem OH {z:Int} {d:Nat} {x y er:Int} (h:Hh z d=(x,y,er)):BI x∧BI y:=by
 unfold Hh at h;split at h
 ·rename_i hc
  simp only[VP]at h;obtain⟨rfl,rfl, -⟩:=h;unfold BI;have h1:(z.tdiv ((z.natAbs.gcd d:Nat):Int)).natAbs=z.natAbs/z.natAbs.gcd d:=by rw[Int.natAbs_tdiv,Int.natAbs_natCast];rfl
  generalize z.tdiv ((z.natAbs.gcd d:Nat):Int)=a at*;generalize d/z.natAbs.gcd d=b at*;omega
 simp only[VP]at h;obtain⟨rfl,rfl, -⟩:=h;unfold BI;omega
theorem Cr:BI 0∧BI 0:=by unfold BI;omega
theorem Kg {n1 d1 n2 d2 x y er:Int} (h:EH n1 d1 n2 d2=(x,y,er)):BI x∧BI y:=by
 unfold EH at h;split at h
 ·exact OH h
 simp only[VP]at h;obtain⟨rfl,rfl, -⟩:=h;exact Cr
theorem O7 {n1 d1 n2 d2 x y er:Int} (h:Em n1 d1 n2 d2=(x,y,er)):BI x∧BI y:=by
 unfold Em at h;split at h
 ·exact OH h
 simp only[VP]at h;obtain⟨rfl,rfl, -⟩:=h;exact Cr
theorem KW {fn n1 d1 n2 d2 x y er:Int} (h:EV fn n1 d1 n2 d2=(x,y,er)):BI x∧BI y:=by
 unfold EV at h;split at h
 ·exact O7 h
 split at h
 ·unfold Jx at h;split at h
  ·exact O7 h
  simp only[VP]at h;obtain⟨rfl,rfl, -⟩:=h;exact Cr
 split at h
 ·exact Kg h
 unfold Hy at h;split at h
 ·split at h
  ·simp only[VP]at h;obtain⟨rfl,rfl, -⟩:=h;exact Cr
  split at h
  ·exact Kg h
  exact Kg h
 simp only[VP]at h;obtain⟨rfl,rfl, -⟩:=h;exact Cr
def Eh (i c:Nat):Bool:=decide (97≤c∧c≤122)||(decide (i≠0)&&(decide (48≤c∧c≤57)||decide (c=95)))
def CW (s:ByteArray):Bool:=decide (1≤s.size∧s.size≤16)&&(List.range s.size).all fun i=>Eh i (s[i]!).toNat
def Eb (c:Nat):Bool:=decide (33≤c∧c≤126∧c≠34∧c≠92∧c≠44∧c≠123∧c≠125)
def DM (s:ByteArray):Bool:=decide (s.size≤16)&&(List.range s.size).all fun i=>Eb (s[i]!).toNat
def BX (m:Mt):Bool:=CW m.1&&decide (0≤m.2.1∧m.2.1≤2)&&DM m.2.2
def U6 (a b:ByteArray):Bool:=Op.bytesLess a.toList b.toList||a.toList==b.toList
def PW (l:List ByteArray) (i:Nat):Bool:=match l[i]? with
 |none=>true
 |some s=>CW s&&(match i with
  |0=>true
  |j+1=>match l[j]? with
   |none=>true
   |some r=> !U6 s r)
def Jo (l:List ByteArray):Bool:=(List.range l.length).all fun i=>PW l i
def DL:List ByteArray:=["sum".toUTF8,"min".toUTF8,"max".toUTF8,"count".toUTF8,"kth".toUTF8]
def IF (s:ByteArray):Bool:=DL.any fun g=>g.toList==s.toList
def BH (e:Ex):Bool:=
 (decide (e.kind=0∧e.fn=0∧e.kids.length=0)&&Al e.num e.den||decide (e.kind=1∧0≤e.fn∧e.fn≤7∧e.kids.length=0∧e.num=0∧e.den=0)||decide (e.kind=2∧0≤e.fn∧e.fn≤4∧e.kids.length=1∧e.num=0∧e.den=0)||decide (e.kind=3∧0≤e.fn∧e.fn≤3∧e.kids.length=2∧e.num=0∧e.den=0))
 &&decide (e.kind≠1→e.window=0∧e.offset=0∧e.name.size=0∧e.ms.length=0)&&decide (e.kind≠1→e.kind≠2→e.k=0)&&decide (e.kind≠2→e.bys.length=0)
def Bs (e:Ex):Bool:=(decide (e.kind≠1)||(CW e.name&& !IF e.name))&&e.ms.all BX&&Jo e.bys
def Ad (e:Ex):Bool:=
 if e.kind=1 then decide (0≤e.offset∧e.offset≤4096)&&(if e.fn=0 then decide (e.window=0∧e.k=0)else decide (1≤e.window∧e.window≤4096)&&(if e.fn=7 then decide (1≤e.k∧e.k≤e.window)else decide (e.k=0)))
 else if e.kind=2∧e.fn=4 then decide (1≤e.k∧e.k≤4096)else decide (e.k=0)
def Bq (e:Ex):Int:=if BH e=false then 1 else if Bs e=false then 8 else if 8<e.ms.length∨8<e.bys.length then 4 else if Ad e=false then 5 else 0
mutual
def CB:Ex→Int
 | .mk k f w o q n d nm ms bs ks=>if Bq (.mk k f w o q n d nm ms bs ks)≠0 then Bq (.mk k f w o q n d nm ms bs ks)else Bw ks
def Bw:List Ex→Int
 |[]=>0
 |e::es=>if CB e≠0 then CB e else Bw es
end
theorem I3 (e:Ex):CB e=if Bq e≠0 then Bq e else Bw e.kids:=by
 cases e;rw[CB];rfl
def DP (e:Ex):Int:=if 12<BN e∨200<AH e then 4 else CB e
theorem Kz {es:List Ex} {j:Nat} {e:Ex} (h:es[j]? =some e) (h0:Bw (es.take j)=0):Bw (es.take (j+1))=CB e:=by
 induction es generalizing j with
 |nil=>simp at h
 |cons a tl ih=>
  cases j with
  |zero=>
   obtain rfl:a=e:=by simpa using h
   simp[Bw];omega
  |succ j=>
   rw[List.take_succ_cons]at h0 ⊢;unfold Bw at h0 ⊢;split at h0
   ·contradiction
   ·rename_i hc
    rw[VM hc];exact ih (by simpa using h) h0
theorem Jz {es:List Ex} {j:Nat} (h0:Bw (es.take j)≠0):Bw es=Bw (es.take j):=by
 induction es generalizing j with
 |nil=>simp[Bw]at h0
 |cons a tl ih=>
  cases j with
  |zero=>simp[Bw]at h0
  |succ j=>
   rw[List.take_succ_cons]at h0 ⊢;unfold Bw at h0 ⊢;split at h0
   ·rename_i hc
    rw[VN hc,VN hc]
   ·rename_i hc
    rw[VM hc,VM hc];exact ih h0
theorem Ha:∀{es:List Ex},Bw es=0↔∀e∈es,CB e=0
 |[]=>by simp[Bw]
 |e::es=>by
  unfold Bw;rw[List.forall_mem_cons,←Ha];split
  ·rename_i h;constructor
   ·intro h';exact absurd h' h
   intro h';exact absurd h'.1 h
  ·rename_i h
   have h:CB e=0:=by omega
   simp[h]
theorem Gd:∀(n:Nat) (e:Ex),AH e≤n→(CB e=0↔BW (fun e=>Bq e=0) e)
 |0,e,h=>absurd (Aj e) (by omega)
 |n+1,e,h=>by
  rw[I3,B3];have h2:AH e=1+Ar e.kids:=by cases e;rw[AH];rfl
  split
  ·rename_i hc;constructor
   ·intro h';exact absurd h' hc
   intro h';exact absurd h'.1 hc
  ·rename_i hc
   have hc:Bq e=0:=by omega
   rw[Ha];constructor
   ·exact fun h'=>⟨hc,fun k hk=>(Gd n k (by have:=AT hk;omega)).1 (h' k hk)⟩
   exact fun h' k hk=>(Gd n k (by have:=AT hk;omega)).2 (h'.2 k hk)
theorem Da {e:Ex} (h:Bq e=0):BH e=true:=by
 unfold Bq at h;split at h
 ·simp at h
 ·rename_i hc;simpa using hc
theorem Fj {e:Ex} (h:BH e=true):Sm e:=by
 intro h3;simp[BH,h3]at h;omega
mutual
def FV:Ex→Nat→Int→Int
 | .mk _ _ _ _ _ _ _ _ _ _ ks,dp,l=>C4 ks (dp+1) (if 12<dp then -1 else l-1)
def C4:List Ex→Nat→Int→Int
 |[],_,l=>l
 |e::es,dp,l=>if l<0 then l else C4 es dp (FV e dp l)
end
theorem O8 (e:Ex) (dp:Nat) (l:Int):FV e dp l=C4 e.kids (dp+1) (if 12<dp then -1 else l-1):=by
 cases e;rw[FV];rfl
theorem Dw {es:List Ex} {dp:Nat} {l:Int} (h:l<0):C4 es dp l=l:=by
 cases es with
 |nil=>rfl
 |cons e es=>rw[C4,VN h]
theorem NR {es:List Ex} {j:Nat} {e:Ex} {dp:Nat} {l:Int} (h:es[j]? =some e) (h0:0≤C4 (es.take j) dp l):C4 (es.take (j+1)) dp l=FV e dp (C4 (es.take j) dp l):=by
 induction es generalizing j l with
 |nil=>simp at h
 |cons a tl ih=>
  cases j with
  |zero=>
   obtain rfl:a=e:=by simpa using h
   have hl:0≤l:=by simpa[C4]using h0
   simp[C4];omega
  |succ j=>
   rw[List.take_succ_cons]at h0 ⊢;rw[List.take_succ_cons];rw[C4]at h0;rw[C4,C4];split at h0
   ·omega
   ·rename_i hc
    rw[VM hc,VM hc];exact ih (by simpa using h) h0
theorem Lj {es:List Ex} {j:Nat} {dp:Nat} {l:Int} (h0:C4 (es.take j) dp l<0):C4 es dp l=C4 (es.take j) dp l:=by
 induction es generalizing j l with
 |nil=>simp
 |cons a tl ih=>
  cases j with
  |zero=>
   have:l<0:=by simpa[C4]using h0
   rw[List.take_zero,Dw this];rfl
  |succ j=>
   rw[List.take_succ_cons]at h0 ⊢;unfold C4 at h0 ⊢;split at h0
   ·rename_i hc
    rw[VN hc,VN hc]
   ·rename_i hc
    rw[VM hc,VM hc];exact ih h0
theorem Je:∀(n:Nat),(∀(e:Ex) (dp:Nat) (l:Int),AH e≤n→0≤l→(((AH e:Nat):Int)≤l∧dp+BN e≤13→FV e dp l=l-(AH e:Nat))∧(¬(((AH e:Nat):Int)≤l∧dp+BN e≤13)→FV e dp l= -1))∧
  (∀(es:List Ex) (dp:Nat) (l:Int),Ar es<n→0≤l→(((Ar es:Nat):Int)≤l∧dp+Br es≤13∨es=[]→C4 es dp l=l-(Ar es:Nat))∧(¬(((Ar es:Nat):Int)≤l∧dp+Br es≤13∨es=[])→C4 es dp l= -1))
 |0=>⟨fun e _ _ h=>absurd (Aj e) (by omega),fun _ _ _ h=>absurd h (by omega)⟩
 |n+1=>by
  obtain⟨hE,hK⟩:=Je n;have hK':∀(es:List Ex) (dp:Nat) (l:Int),Ar es<n+1→0≤l→(((Ar es:Nat):Int)≤l∧dp+Br es≤13∨es=[]→C4 es dp l=l-(Ar es:Nat))∧(¬(((Ar es:Nat):Int)≤l∧dp+Br es≤13∨es=[])→C4 es dp l= -1):=by
   intro es dp l hn hl;cases es with
   |nil=>exact⟨fun _=>by simp[C4,Ar],fun h=>absurd (.inr rfl) h⟩
   |cons e es=>
    have h1:Ar (e::es)=AH e+Ar es:=rfl;have h2:Br (e::es)=max (BN e) (Br es):=rfl;have h0:=Aj e;rw[C4,VM (by omega)];obtain⟨h3,h4⟩:=hE e dp l (by omega) hl;by_cases hg:((AH e:Nat):Int)≤l∧dp+BN e≤13
    ·rw[h3 hg];obtain⟨h5,h6⟩:=hK es dp (l-(AH e:Nat)) (by omega) (by omega);constructor
     ·rintro(h|h)
      ·rw[h5 (.inl (by omega)),h1];omega
      cases h
     intro h;by_cases hes:es=[]
     ·subst hes;exact absurd (.inl (by rw[h1,h2,show Ar []=0 from rfl,show Br []=0 from rfl];omega)) h
     refine h6 fun h'=>?_
     rcases h' with h'|h'
     ·exact h (.inl (by omega))
     exact hes h'
    rw[h4 hg,Dw (by omega)];refine⟨fun h=>?_,fun _=>rfl⟩;rcases h with h|h
    ·omega
    cases h
  refine⟨?_,hK'⟩;intro e dp l hn hl;rw[O8];have h2:AH e=1+Ar e.kids:=by cases e;rw[AH];rfl
  have h3:BN e=Br e.kids+1:=by cases e;rw[BN];rfl
  have h4:e.kids=[]→Ar e.kids=0∧Br e.kids=0:=by intro h;rw[h];exact⟨rfl,rfl⟩
  by_cases hd:12<dp
  ·rw[VN hd,Dw (by omega)];exact⟨fun h=>by omega,fun _=>rfl⟩
  rw[VM hd];by_cases hl0:l=0
  ·rw[Dw (by omega)];exact⟨fun h=>by omega,fun _=>by omega⟩
  obtain⟨h5,h6⟩:=hK' e.kids (dp+1) (l-1) (by omega) (by omega);constructor
  ·intro h;rw[h5 (.inl (by omega)),h2];omega
  intro h;by_cases hk:e.kids=[]
  ·obtain⟨h7,h8⟩:=h4 hk;omega
  refine h6 fun h'=>?_
  rcases h' with h'|h'
  ·exact h (by omega)
  exact hk h'
theorem JN (e:Ex):(0≤FV e 1 200↔¬(12<BN e∨200<AH e)):=by
 obtain⟨h1,h2⟩:=(Je (AH e)).1 e 1 200 (by omega) (by omega);by_cases h:((AH e:Nat):Int)≤200∧1+BN e≤13
 ·rw[h1 h];omega
 rw[h2 h];omega
end Go.Proofs.YthpflelgbadkcaaGreatDoor
