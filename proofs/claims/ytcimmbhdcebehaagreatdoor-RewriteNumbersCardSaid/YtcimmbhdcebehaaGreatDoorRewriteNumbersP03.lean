/- What the card of the law stands on: Ord, RMul, RAdd, RDiv, RApp, FoldPl. -/
import Derived.Test.YtcimmbhdcebehaaGreatDoorRewriteNumbersP01
import Derived.OrdersHeld
import Derived.StillTail
import Derived.Test.YtcimmbhdcebehaaGreatDoorRewriteNumbersP02
set_option maxRecDepth 100000
set_option maxHeartbeats 12800000
set_option linter.unusedVariables false
set_option linter.unusedSimpArgs false
namespace Go.Proofs.YtcimmbhdcebehaaGreatDoor
open Go Go.RowKit
section
variable {P:Program} {ops:Array Oper} {Q:Exit→Act→World→Prop} {md:Region.Mode}
def headOk (md:Region.Mode) (ops:Array Oper) (m i:Nat):Bool:=match ops[i]? with
 |some o=>o.guard.isNone&&(o.op.operands.all fun x=>match x with
   | .tmp t=>(List.range m).all fun j=>(match ops[j]? with|some oj=>oj.dst !=some t||Region.waitsFor md ops i j|none=>true)
   |_=>true)
 |none=>false
def backB (md:Region.Mode) (ops:Array Oper):Bool:=(List.range ops.size).all fun i=>match ops[i]? with
 |some o=>o.after.all fun e=> !Region.binds md e||decide (e.on<i)
 |none=>true
def tailB (md:Region.Mode) (ops:Array Oper) (m:Nat):Bool:=(List.range ops.size).all fun i=>decide (i<m)||(List.range m).all fun j=>Region.waitsFor md ops i j
def headsB (md:Region.Mode) (ops:Array Oper) (m:Nat):Bool:=decide (m≤ops.size)&&(List.range m).all (headOk md ops m)&&backB md ops&&tailB md ops m
def cnt:Nat→Array Bool→Nat
 |0,_=>0
 |k+1,l=>cnt k l+if l.getD k false then 0 else 1
theorem getD_set_self {l:Array Bool} {i:Nat} (h:i<l.size):(l.setIfInBounds i true).getD i false=true:=by simp[Array.getD,h]
theorem cnt_out (l:Array Bool):∀(m i:Nat),m≤i→cnt m (l.setIfInBounds i true)=cnt m l
 |0,_,_=>rfl
 |m+1,i,h=>by
  unfold cnt;rw[cnt_out l m i (by omega),getD_set_ne false (by omega)]
theorem cnt_set (l:Array Bool):∀(m i:Nat),i<m→i<l.size→l.getD i false=false→cnt m (l.setIfInBounds i true)+1=cnt m l
 |0,_,h,_,_=>absurd h (by omega)
 |m+1,i,h,hs,hl=>by
  unfold cnt;by_cases he:i=m
  ·subst he;rw[cnt_out l i i (Nat.le_refl _),getD_set_self hs,hl];simp
  rw[getD_set_ne false he];have:=cnt_set l m i (by omega) hs hl;omega
theorem cnt_zero {l:Array Bool}:∀{m:Nat},cnt m l=0→∀j,j<m→l.getD j false=true
 |0,_,j,hj=>absurd hj (by omega)
 |m+1,h,j,hj=>by
  unfold cnt at h;by_cases he:j=m
  ·subst he;cases hg:l.getD j false with
   |true=>rfl
   |false=>rw[hg]at h;simp at h
  exact cnt_zero (m:=m) (by omega) j (by omega)
theorem cnt_pos {l:Array Bool}:∀{m:Nat},0<cnt m l→∃j,j<m∧l.getD j false=false
 |0,h=>absurd h (by simp[cnt])
 |m+1,h=>by
  unfold cnt at h;cases hg:l.getD m false with
  |false=>exact⟨m,by omega,hg⟩
  |true=>
   rw[hg]at h;obtain⟨j,hj,hl⟩:=cnt_pos (m:=m) (by simpa using h);exact⟨j,by omega,hl⟩
def doneL (n m:Nat):Array Bool:=((List.range n).map fun i=>decide (i<m)).toArray
theorem done_eq {l:Array Bool} {m n:Nat} (hs:l.size=n) (h1:∀j,j<m→l.getD j false=true) (h2:∀i,m≤i→l.getD i false=false):l=doneL n m:=by
 apply Array.ext
 ·simp[doneL,hs]
 intro i hi hi2;have e:l[i]=l.getD i false:=by simp[Array.getD,hi]
 rw[e];simp only[doneL,List.getElem_toArray,List.getElem_map,List.getElem_range];by_cases h:i<m
 ·rw[h1 i h];simp[h]
 rw[h2 i (by omega)];simp[h]
structure OInv (ops:Array Oper) (m:Nat) (ia:Option Nat) (G:Nat→Act) (w0:World) (B:Nat→World→Prop) (listed:Array Bool) (a:Act) (w:World):Prop where
 ex:∃z,(∀k,(∀j o,j<m→ops[j]? =some o→o.dst=some k→listed.getD j false=true)→a.tmps[k]? =(G z).tmps[k]?)∧a.tmps.size=(G z).tmps.size∧a.defers=(G z).defers∧(∀i,ia=some i→listed.getD i false=true→B z w)
 grew:Grew w0 w
 size:listed.size=ops.size
 tail:∀i,m≤i→listed.getD i false=false
theorem put_get {a:Act} {d k:Tmp} {v:Value}:(a.put (some d) v).tmps[k]? =if d=k then(if d<a.tmps.size then some v else none)else a.tmps[k]? :=by
 simp only[Act.put];rw[Array.getElem?_setIfInBounds]
theorem ready_of_unlisted (hb:backB md ops=true) {listed:Array Bool} (hsz:listed.size=ops.size):∀n i,i≤n→i<ops.size→listed.getD i false=false→Region.ready md ops listed≠[]:=by
 intro n
 induction n with
 |zero=>
  intro i hi hlt hl;obtain rfl:i=0:=by omega
  refine List.ne_nil_of_mem (a:=0) (mem_ready.2 ⟨?_,ops[0],Array.getElem?_eq_getElem hlt,fun e he hbd=>?_⟩)
  ·simpa[Array.getD,hsz,hlt]using hl
  have h:=List.all_eq_true.1 hb 0 (List.mem_range.2 hlt);rw[Array.getElem?_eq_getElem hlt]at h;have h2:=Array.all_eq_true'.1 h e he;simp[hbd]at h2
 |succ n ih=>
  intro i hi hlt hl;by_cases hall:∀e∈(ops[i]'hlt).after,Region.binds md e=true→listed.getD e.on false=true
  ·refine List.ne_nil_of_mem (a:=i) (mem_ready.2 ⟨?_,ops[i],Array.getElem?_eq_getElem hlt,hall⟩);simpa[Array.getD,hsz,hlt]using hl
  simp only[Classical.not_forall]at hall;obtain⟨e,he,hbd,hno⟩:=hall;have h:=List.all_eq_true.1 hb i (List.mem_range.2 hlt);rw[Array.getElem?_eq_getElem hlt]at h;have h2:=Array.all_eq_true'.1 h e he;simp only[hbd,Bool.not_true,Bool.false_or,decide_eq_true_eq]at h2;exact ih e.on (by omega) (by omega) (by simpa using hno)
theorem wp_transfer {o:Oper} (hns:∀cs b,o.op≠.select cs b) {a g:Act} {w:World} {R:World→Prop} {K:Act→World→Prop} (h:o.wp P g w (fun a' w'=>a'=g∧R w') (fun _ _ _=>False))
  (hops:∀x∈o.op.operands,a.eval x=g.eval x) (hK:∀v w',g.put o.dst v=g→R w'→K (a.put o.dst v) w'):o.wp P a w K Q:=by
 unfold Oper.wp at*;rw[execOp_congr o hns hops];generalize (execOp g.eval o).run P w=r at*;cases r with
 |ok n w'=>
  cases n with
  |value u=>exact hK u w' h.1 h.2
  |skip=>exact hK undef w' h.1 h.2
  |defer d=>
   exfalso;have h1:=congrArg Act.defers h.1;have h2:(({ g with defers:=d::g.defers }:Act).put o.dst undef).defers=d::g.defers:=by cases o.dst<;>rfl
   rw[h2]at h1;have:=congrArg List.length h1;simp at this
  |enter f args=>
   refine Calls.mono h fun e w'' he=>?_
   cases e with
   |returned v=>exact hK v w'' he.1 he.2
   |panicked c=>exact he.elim
   |outgrown=>obtain⟨_,_,h0⟩:=he;exact h0.elim
  |row r args=>exact Rows.mono h fun v w'' he=>hK v w'' he.1 he.2
  |_=>exact False.elim h
 |halt x w'=>
  cases x<;>exact False.elim h
theorem heads_any {m:Nat} (hB0:headsB md ops m=true) (hs:Region.noSelect ops=true) (ia:Option Nat) (d8:Tmp) (G:Nat→Act) (w0:World) (B:Nat→World→Prop)
  (hGk:∀z z' k,k≠d8→(G z).tmps[k]? =(G z').tmps[k]?) (hGs:∀z z',(G z).tmps.size=(G z').tmps.size) (hGd:∀z z',(G z).defers=(G z').defers)
  (hBg:∀z w w',B z w→Grew w w'→B z w')
  (hst:∀i o,i<m→ia≠some i→ops[i]? =some o→∀z w,Grew w0 w→o.wp P (G z) w (fun a' w'=>a'=G z∧Grew w w') (fun _ _ _=>False))
  (hal:∀i o,ia=some i→ops[i]? =some o→o.dst=some d8∧(∀z,(G z).tmps[d8]? =some (.pointer (some ⟨z,0,none⟩)))∧∀a w K,Grew w0 w→(∀z w',Grew w w'→B z w'→K (a.put (some d8) (.pointer (some ⟨z,0,none⟩))) w')→o.wp P a w K Q)
  (T:∀z w fuel,Grew w0 w→(∀i,ia=some i→B z w)→ops.size≤m+fuel→wpAny P md ops Q fuel (doneL ops.size m) (G z) w) (hia:∀i,ia=some i→i<m):
  ∀fuel listed a w,OInv ops m ia G w0 B listed a w→cnt m listed+(ops.size-m)≤fuel→wpAny P md ops Q fuel listed a w:=by
 unfold headsB at hB0;simp only[Bool.and_eq_true,decide_eq_true_eq]at hB0;obtain⟨⟨⟨hmn,hhd⟩,hbk⟩,htl⟩:=hB0;have hdone:∀fuel listed a w,OInv ops m ia G w0 B listed a w→cnt m listed=0→ops.size≤m+fuel→wpAny P md ops Q fuel listed a w:=by
  intro fuel listed a w hI h0 hf;obtain⟨z,hk,hsz,hdf,hBz⟩:=hI.ex;have hall:=cnt_zero h0;have ha:a=G z:=by
   have ht:a.tmps=(G z).tmps:=Array.ext_getElem? fun k=>hk k fun j o hj _ _=>hall j hj
   cases a;cases hg:G z;rw[hg]at ht hdf;simp at ht hdf;rw[ht,hdf]
  rw[ha,done_eq hI.size hall hI.tail];exact T z w fuel hI.grew (fun i hi=>hBz i hi (hall i (hia i hi))) hf
 intro fuel
 induction fuel with
 |zero=>intro listed a w hI hc;exact hdone 0 listed a w hI (by omega) (by omega)
 |succ fuel ih=>
  intro listed a w hI hc;rcases Nat.eq_zero_or_pos (cnt m listed)with h0|hpos
  ·exact hdone (fuel+1) listed a w hI h0 (by omega)
  obtain⟨j0,hj0,hl0⟩:=cnt_pos hpos;refine⟨fun hr=>absurd hr (ready_of_unlisted hbk hI.size j0 j0 (Nat.le_refl _) (by omega) hl0),fun i hi=>?_⟩;obtain⟨hun,oi,hoi,hdep⟩:=mem_ready.1 hi;have hisz:i<ops.size:=(Array.getElem?_eq_some_iff.1 hoi).1;have hun':listed.getD i false=false:=getD_both hun;have him:i<m:=by
   rcases Nat.lt_or_ge i m with h|h
   ·exact h
   exfalso;have h1:=List.all_eq_true.1 htl i (List.mem_range.2 hisz);simp only[Bool.or_eq_true,decide_eq_true_eq,List.all_eq_true,List.mem_range]at h1;rcases h1 with h1|h1
   ·omega
   have hall:∀j,j<m→listed.getD j false=true:=fun j hj=>by
    obtain⟨o',ho',e,he,hbd,hon⟩:=Region.waitsFor_spec (h1 j hj);obtain rfl:oi=o':=Option.some.inj (hoi.symm.trans ho');rw[←hon];exact hdep e he hbd
   have:∀k,k≤m→cnt k listed=0:=by
    intro k
    induction k with
    |zero=>intro _;rfl
    |succ k ihk=>intro hk;unfold cnt;rw[ihk (by omega),hall k (by omega)];rfl
   have:=this m (Nat.le_refl _);omega
  have hhi:=List.all_eq_true.1 hhd i (List.mem_range.2 him);unfold headOk at hhi;simp only[hoi,Bool.and_eq_true]at hhi;obtain⟨hgd,hopr⟩:=hhi;have hgd':oi.guard=none:=by simpa using hgd
  have hc':cnt m (listed.setIfInBounds i true)+1=cnt m listed:=cnt_set listed m i him (by rw[hI.size];exact hisz) hun';have htl':∀j,m≤j→(listed.setIfInBounds i true).getD j false=false:=fun j hj=>by rw[getD_set_ne false (by omega)];exact hI.tail j hj
  have hsz':(listed.setIfInBounds i true).size=ops.size:=by rw[Array.size_setIfInBounds,hI.size]
  obtain⟨z,hk,hsz,hdf,hBz⟩:=hI.ex;unfold wpOp;simp only[hoi];rw[if_pos (by simp[Region.wanted,hgd'])];refine .inl ?_;by_cases hii:ia=some i
  ·obtain⟨hd,hG8,hal⟩:=hal i oi hii hoi;refine hal a w _ hI.grew fun z' w' hg hb=>ih _ _ _ ⟨⟨z',fun k hkk=>?_,?_,?_,fun _ _ _=>hb⟩,hI.grew.trans hg,hsz',htl'⟩ (by omega)
   ·rw[put_get];by_cases hdk:d8=k
    ·subst hdk;rw[if_pos rfl];have h1:=hG8 z';have h2:d8<a.tmps.size:=by
      rw[hsz,hGs z z'];exact(Array.getElem?_eq_some_iff.1 h1).1
     rw[if_pos h2,h1]
    rw[if_neg hdk,hGk z' z k (fun e=>hdk e.symm)];refine hk k fun j o hj ho hod=>?_
    have h1:=hkk j o hj ho hod;by_cases hij:i=j
    ·subst hij;obtain rfl:oi=o:=Option.some.inj (hoi.symm.trans ho);rw[hd]at hod;exact absurd (Option.some.inj hod) hdk
    rwa[getD_set_ne false hij]at h1
   ·simp only[Act.put,Array.size_setIfInBounds];rw[hsz,hGs z z']
   simp only[Act.put];rw[hdf,hGd z z']
  have hst:=hst i oi him hii hoi z w hI.grew;refine wp_transfer (fun cs b=>Region.noSelect_spec hs i oi cs b hoi) hst (fun x hx=>?_) fun v w' hv hg=>ih _ _ _ ⟨⟨z,fun k hkk=>?_,?_,?_,fun i' hi' hl'=>?_⟩,hI.grew.trans hg,hsz',htl'⟩ (by omega)
  ·cases x with
   |tmp t=>
    have h1:=Array.all_eq_true'.1 hopr _ hx;simp only[List.all_eq_true,List.mem_range]at h1;have h2:a.tmps[t]? =(G z).tmps[t]? :=hk t fun j o hj ho hod=>by
     have h3:=h1 j hj;simp only[ho,hod]at h3;have h4:Region.waitsFor md ops i j=true:=by simpa using h3
     obtain⟨o',ho',e,he,hbd,hon⟩:=Region.waitsFor_spec h4;obtain rfl:oi=o':=Option.some.inj (hoi.symm.trans ho');rw[←hon];exact hdep e he hbd
    simp only[Act.eval,Array.getD_eq_getD_getElem?,h2]
   |_=>rfl
  ·cases hd:oi.dst with
   |none=>
    refine hk k fun j o hj ho hod=>?_
    have h1:=hkk j o hj ho hod;by_cases hij:i=j
    ·subst hij;obtain rfl:oi=o:=Option.some.inj (hoi.symm.trans ho);rw[hd]at hod;cases hod
    rwa[getD_set_ne false hij]at h1
   |some d=>
    rw[hd]at hv;rw[put_get];by_cases hdk:d=k
    ·subst hdk;rw[if_pos rfl];have h1:((G z).put (some d) v).tmps[d]? =(G z).tmps[d]? :=by rw[hv]
     rw[put_get,if_pos rfl]at h1;rw[←h1,hsz]
    rw[if_neg hdk];refine hk k fun j o hj ho hod=>?_
    have h1:=hkk j o hj ho hod;by_cases hij:i=j
    ·subst hij;obtain rfl:oi=o:=Option.some.inj (hoi.symm.trans ho);rw[hd]at hod;exact absurd (Option.some.inj hod) hdk
    rwa[getD_set_ne false hij]at h1
  ·cases oi.dst with
   |none=>exact hsz
   |some d=>simp only[Act.put,Array.size_setIfInBounds];exact hsz
  ·cases oi.dst with
   |none=>exact hdf
   |some d=>exact hdf
  have hne:i≠i':=fun e=>hii (by rw[e,hi'])
  rw[getD_set_ne false hne]at hl';exact hBg z w w' (hBz i' hi' hl') hg
def putAll:List Oper→List Value→Act→Act
 |o::os,v::vs,a=>putAll os vs (a.put o.dst v)
 |_,_,a=>a
theorem putAll_get:∀(os:List Oper) (vs:List Value) (a:Act) (k:Tmp),(∀o∈os,o.dst≠some k)→(putAll os vs a).tmps[k]? =a.tmps[k]?
 |[],_,_,_,_=>rfl
 |_::_,[],_,_,_=>rfl
 |o::os,v::vs,a,k,h=>by
  unfold putAll;rw[putAll_get os vs _ k fun o' ho'=>h o' (List.mem_cons_of_mem _ ho')];have h1:=h o List.mem_cons_self;cases hd:o.dst with
  |none=>rfl
  |some d=>
   rw[put_get,if_neg];intro e;rw[hd,e]at h1;exact h1 rfl
theorem put_size (a:Act) (d:Option Tmp) (v:Value):(a.put d v).tmps.size=a.tmps.size∧(a.put d v).defers=a.defers:=by
 cases d with
 |none=>exact⟨rfl,rfl⟩
 |some d=>exact⟨by simp[Act.put],rfl⟩
theorem putAll_size:∀(os:List Oper) (vs:List Value) (a:Act),(putAll os vs a).tmps.size=a.tmps.size∧(putAll os vs a).defers=a.defers
 |[],_,_=>⟨rfl,rfl⟩
 |_::_,[],_=>⟨rfl,rfl⟩
 |o::os,v::vs,a=>by
  unfold putAll;obtain⟨h1,h2⟩:=putAll_size os vs (a.put o.dst v);obtain⟨h3,h4⟩:=put_size a o.dst v;exact⟨h1.trans h3,h2.trans h4⟩
def Heads (P:Program) (w0:World) (ia:Option Nat) (G:Nat→Act):Nat→List Oper→Prop
 |_,[]=>True
 |i,o::r=>(ia≠some i→∀z w,Grew w0 w→o.wp P (G z) w (fun a' w'=>a'=G z∧Grew w w') (fun _ _ _=>False))∧Heads P w0 ia G (i+1) r
theorem heads_nil {w0:World} {ia:Option Nat} {G:Nat→Act} {i:Nat}:Heads P w0 ia G i []:=trivial
theorem heads_cons {w0:World} {ia:Option Nat} {G:Nat→Act} {i:Nat} {o:Oper} {r:List Oper} (h:∀z w,Grew w0 w→o.wp P (G z) w (fun a' w'=>a'=G z∧Grew w w') (fun _ _ _=>False)) (h2:Heads P w0 ia G (i+1) r):Heads P w0 ia G i (o::r):=⟨fun _=>h,h2⟩
theorem heads_alloc {w0:World} {G:Nat→Act} {i:Nat} {o:Oper} {r:List Oper} (h2:Heads P w0 (some i) G (i+1) r):Heads P w0 (some i) G i (o::r):=⟨fun e=>absurd rfl e,h2⟩
theorem heads_spec {w0:World} {ia:Option Nat} {G:Nat→Act}:∀{l:List Oper} {n:Nat},Heads P w0 ia G n l→∀i o,l[i]? =some o→ia≠some (n+i)→∀z w,Grew w0 w→o.wp P (G z) w (fun a' w'=>a'=G z∧Grew w w') (fun _ _ _=>False)
 |[],_,_,_,_,h,_=>by simp at h
 |_::_,n,h,0,o,ho,hne=>by
  obtain rfl:=Option.some.inj ho;exact h.1 hne
 |_::r,n,h,i+1,o,ho,hne=>heads_spec h.2 i o (by simpa using ho) (by rwa[Nat.add_assoc,Nat.add_comm 1])
theorem tail_one {m:Nat} {o:Oper} {l:Array Bool} {a:Act} {w:World} (hr1:Region.ready md ops l=[m]) (hr2:Region.ready md ops (l.setIfInBounds m true)=[]) (ho:ops[m]? =some o) (hgd:o.guard=none)
  (h:o.wp P a w (fun a' w'=>Q .normal a' w') Q):∀fuel,1≤fuel→wpAny P md ops Q fuel l a w
 |0,hf=>absurd hf (by omega)
 |fuel+1,_=>by
  refine⟨fun h0=>(by rw[hr1]at h0;cases h0),fun i hi=>?_⟩;rw[hr1]at hi;obtain rfl:i=m:=by simpa using hi
  unfold wpOp;simp only[ho];rw[if_pos (by simp[Region.wanted,hgd])];refine .inl ?_;have e:(fun a' w'=>Q .normal a' w')=wpAny P md ops Q fuel (l.setIfInBounds i true):=by
   cases fuel with
   |zero=>funext a' w';simp[wpAny,hr2]
   |succ f=>funext a' w';simp[wpAny,hr2]
  rwa[←e]
theorem wp_stN {o:Oper} {a:Act} {w:World} {K:Act→World→Prop} (T:TypeId) (x y:Operand) (g:Nat) (vs us:List Value) (t:TypeId) (hT:(P.info? T).map (·.size)=some vs.length) (hl:us.length=vs.length) (h1:∀v∈vs,v.oneCell'=true) (ho:o.op= .store T x y)
  (hx:a.eval x= .pointer (some ⟨g,0,none⟩)) (hy:a.eval y= .agg vs.toArray) (hb:Box w g t us.toArray)
  (h:∀w',Box w' g t vs.toArray→Keeps (fun i=>i=g) w w'→K (a.put o.dst undef) w'):o.wp P a w K Q:=by
 refine wp_store_mid T x y ho g 0 vs.toArray hx hy (by simpa using hb.thereN 0 vs.length (by omega)) (by simpa using hT) (all_oneCell_toArray h1) ?_;have hp:=hb.putN vs 0 (by omega);have e:us.take 0++vs++us.drop (0+vs.length)=vs:=by simp[←hl]
 rw[e]at hp;exact h _ hp (setCells_keeps g vs 0 w).1
theorem region_made {id:Nat} {a:Act} {w:World} (hm:P.follows .mixedOrders=true) (m ia:Nat) (d8:Tmp) (vals:List Value) (ty:TypeId) (zs:List Value) (G:Nat→Act) (hB0:headsB .any ops m=true) (hs:Region.noSelect ops=true) (hia:ia<m) (hn:ops.size=m+1)
  (hG:G=fun z=>(putAll (ops.toList.take m) vals a).put (some d8) (.pointer (some ⟨z,0,none⟩))) (hd8:d8<a.tmps.size) (hda:(ops[ia]?).map (·.dst)=some (some d8))
  (hH:Heads P w.drew (some ia) G 0 (ops.toList.take m))
  (hal:∀o,ops[ia]? =some o→∀a w K,(∀w',w'=w.alloc (.cells zs.toArray ty)→K (a.put o.dst (.pointer (some ⟨w.heap.size,0,none⟩))) w')→o.wp P a w K Q)
  (vs:List Value) (x y:Operand) (T:TypeId) (o:Oper) (ho:ops[m]? =some o) (hgd:o.guard=none) (hop:o.op= .store T x y) (hd:o.dst=none) (hT:(P.info? T).map (·.size)=some vs.length) (hl:zs.length=vs.length) (h1:∀v∈vs,v.oneCell'=true)
  (hx:∀z,(G z).eval x= .pointer (some ⟨z,0,none⟩)) (hy:∀z,(G z).eval y= .agg vs.toArray)
  (hr1:Region.ready .any ops (doneL ops.size m)=[m]) (hr2:Region.ready .any ops ((doneL ops.size m).setIfInBounds m true)=[])
  (h:∀z w',w.heap.size≤z→Box w' z ty vs.toArray→Grew w w'→Q .normal (G z) w'):(Code.region id ops true).wp P Q a w:=by
 refine wp_region_any hm ?_;have hsz:∀z,(G z).tmps.size=a.tmps.size:=fun z=>by rw[hG];exact(put_size _ _ _).1.trans (putAll_size _ _ _).1
 have hdf:∀z,(G z).defers=a.defers:=fun z=>by rw[hG];exact(put_size _ _ _).2.trans (putAll_size _ _ _).2
 refine heads_any (m:=m) hB0 hs (some ia) d8 G w.drew (fun z w'=>Box w' z ty zs.toArray∧w.heap.size≤z) ?_ (fun z z'=>by rw[hsz,hsz]) (fun z z'=>by rw[hdf,hdf]) (fun z w1 w2 hb hg=>⟨hb.1.grew hg,hb.2⟩) ?_ ?_ ?_ (fun i hi=>by cases hi;exact hia) ops.size _ _ _ ⟨⟨0,?_,(hsz 0).symm,(hdf 0).symm,?_⟩,Grew.refl _,by simp,?_⟩ ?_
 ·intro z z' k hk;rw[hG];simp only[put_get];rw[if_neg (fun e=>hk e.symm),if_neg (fun e=>hk e.symm)]
 ·intro i o' him hne ho' z w1 hg;exact heads_spec hH i o' (by rw[List.getElem?_take,if_pos him];simpa using ho') (by simpa using hne) z w1 hg
 ·intro i o' hi ho';cases hi;rw[ho']at hda;have hdo:o'.dst=some d8:=by simpa using hda
  refine⟨hdo,fun z=>?_,fun a1 w1 K hg hK=>?_⟩
  ·rw[hG];simp only[put_get];rw[if_pos trivial,if_pos];rw[(putAll_size _ _ _).1];exact hd8
  refine hal o' ho' a1 w1 K fun w' hw'=>?_
  subst hw';rw[hdo];exact hK _ _ ((Grew.refl w1).alloc _) ⟨Box.new w1 ty zs.toArray,hg.size⟩
 ·intro z w1 fuel hg hb hf;obtain⟨hb,hz⟩:=hb ia rfl;refine tail_one hr1 hr2 ho hgd (wp_stN T x y z vs zs ty hT hl h1 hop (hx z) (hy z) hb fun w2 k1 k2=>?_) fuel (by omega);have e:(G z).put o.dst undef=G z:=by rw[hd];rfl
  rw[e];refine h z w2 hz k1 ?_;have hg':Grew w w1:=(Keeps.drew (Grew.refl w)).trans hg;exact Keeps.then_ hg' k2 (fun i hi e=>by omega)
 ·intro k hk;rw[hG];simp only[];rw[put_get];by_cases hkd:d8=k
  ·exfalso;subst hkd;have hex:∃o',ops[ia]? =some o'∧o'.dst=some d8:=by
    cases ho':ops[ia]? with
    |none=>rw[ho']at hda;cases hda
    |some o'=>rw[ho']at hda;exact⟨o',rfl,by simpa using hda⟩
   obtain⟨o',ho',hdo⟩:=hex;have:=hk ia o' hia ho' hdo;rw[getD_replicate_false]at this;cases this
  rw[if_neg hkd];refine(putAll_get _ _ _ _ fun o' ho' hdo=>?_).symm;obtain⟨j,hj⟩:=List.getElem?_of_mem ho';rw[List.getElem?_take]at hj;split at hj
  ·rename_i hjm
   have:=hk j o' hjm (by simpa using hj) hdo;rw[getD_replicate_false]at this;cases this
  cases hj
 ·intro i hi hl';rw[getD_replicate_false]at hl';cases hl'
 ·intro i hi;rw[getD_replicate_false]
 have:∀k,cnt k (Array.replicate ops.size false)≤k:=by
  intro k
  induction k with
  |zero=>exact Nat.le_refl _
  |succ k ih=>unfold cnt;split<;>omega
 have:=this m;omega
theorem region_set {id:Nat} {a:Act} {w:World} (hm:P.follows .mixedOrders=true) (m:Nat) (vals:List Value) (G:Act) (hB0:headsB .any ops m=true) (hs:Region.noSelect ops=true) (hn:ops.size=m+1)
  (hG:G=putAll (ops.toList.take m) vals a) (hH:Heads P w.drew none (fun _=>G) 0 (ops.toList.take m))
  (d5:Tmp) (o:Oper) (ho:ops[m]? =some o) (hd5:o.dst=some d5) (hgd:o.guard=none) (v:Value) (hv:∀w',(execOp G.eval o).run P w'= .ok (.value v) w')
  (hr1:Region.ready .any ops (doneL ops.size m)=[m]) (hr2:Region.ready .any ops ((doneL ops.size m).setIfInBounds m true)=[])
  (h:∀w1,Grew w w1→Q .normal (G.put (some d5) v) w1):(Code.region id ops true).wp P Q a w:=by
 refine wp_region_any hm ?_;have hsz:G.tmps.size=a.tmps.size:=by rw[hG];exact(putAll_size _ _ _).1
 have hdf:G.defers=a.defers:=by rw[hG];exact(putAll_size _ _ _).2
 refine heads_any (m:=m) hB0 hs none 0 (fun _=>G) w.drew (fun _ _=>True) (fun _ _ _ _=>rfl) (fun _ _=>rfl) (fun _ _=>rfl) (fun _ _ _ _ _=>trivial) ?_ (fun _ _ hi=>by cases hi) ?_ (fun i hi=>by cases hi) ops.size _ _ _ ⟨⟨0,?_,hsz.symm,hdf.symm,fun _ hi=>by cases hi⟩,Grew.refl _,by simp,?_⟩ ?_
 ·intro i o' him hne ho' z w1 hg;exact heads_spec hH i o' (by rw[List.getElem?_take,if_pos him];simpa using ho') (by simp) z w1 hg
 ·intro z w1 fuel hg _ hf;have hg':Grew w w1:=(Keeps.drew (Grew.refl w)).trans hg;refine tail_one hr1 hr2 ho hgd ?_ fuel (by omega);unfold Oper.wp;rw[hv];have:=h w1 hg';rw[←hd5]at this;exact this
 ·intro k hk;rw[hG];refine(putAll_get _ _ _ _ fun o' ho' hdo=>?_).symm;obtain⟨j,hj⟩:=List.getElem?_of_mem ho';rw[List.getElem?_take]at hj;split at hj
  ·rename_i hjm
   have:=hk j o' hjm (by simpa using hj) hdo;rw[getD_replicate_false]at this;cases this
  cases hj
 ·intro i hi;rw[getD_replicate_false]
 have:∀k,cnt k (Array.replicate ops.size false)≤k:=by
  intro k
  induction k with
  |zero=>exact Nat.le_refl _
  |succ k ih=>unfold cnt;split<;>omega
 have:=this m;omega
theorem region_all {id:Nat} {a:Act} {w:World} (hm:P.follows .mixedOrders=true) (vals:List Value) (G:Act) (hB0:headsB .any ops ops.size=true) (hs:Region.noSelect ops=true)
  (hG:G=putAll ops.toList vals a) (hH:Heads P w.drew none (fun _=>G) 0 ops.toList) (hr:Region.ready .any ops (doneL ops.size ops.size)=[])
  (h:∀w1,Grew w w1→Q .normal G w1):(Code.region id ops true).wp P Q a w:=by
 refine wp_region_any hm ?_;have hsz:G.tmps.size=a.tmps.size:=by rw[hG];exact(putAll_size _ _ _).1
 have hdf:G.defers=a.defers:=by rw[hG];exact(putAll_size _ _ _).2
 refine heads_any (m:=ops.size) hB0 hs none 0 (fun _=>G) w.drew (fun _ _=>True) (fun _ _ _ _=>rfl) (fun _ _=>rfl) (fun _ _=>rfl) (fun _ _ _ _ _=>trivial) ?_ (fun _ _ hi=>by cases hi) ?_ (fun i hi=>by cases hi) ops.size _ _ _ ⟨⟨0,?_,hsz.symm,hdf.symm,fun _ hi=>by cases hi⟩,Grew.refl _,by simp,?_⟩ ?_
 ·intro i o' him hne ho' z w1 hg;exact heads_spec hH i o' (by simpa using ho') (by simp) z w1 hg
 ·intro z w1 fuel hg _ hf;have hg':Grew w w1:=(Keeps.drew (Grew.refl w)).trans hg;cases fuel with
  |zero=>exact⟨hr,h w1 hg'⟩
  |succ f=>exact⟨fun _=>h w1 hg',by rw[hr];simp⟩
 ·intro k hk;rw[hG];refine(putAll_get _ _ _ _ fun o' ho' hdo=>?_).symm;obtain⟨j,hj⟩:=List.getElem?_of_mem ho';have hjs:ops[j]? =some o':=by simpa using hj
  have:=hk j o' (Array.getElem?_eq_some_iff.1 hjs).1 hjs hdo;rw[getD_replicate_false]at this;cases this
 ·intro i hi;rw[getD_replicate_false]
 have:∀k,cnt k (Array.replicate ops.size false)≤k:=by
  intro k
  induction k with
  |zero=>exact Nat.le_refl _
  |succ k ih=>unfold cnt;split<;>omega
 have:=this ops.size;omega
end
end Go.Proofs.YtcimmbhdcebehaaGreatDoor
namespace Go.Proofs.YtcimmbhdcebehaaGreatDoor
open Go.RowKit Pl
def applyF (op n1 d1 n2 d2:Int):Int×Int×Int:=if op=0 then addF n1 d1 n2 d2 else if op=1 then subF n1 d1 n2 d2 else if op=2 then mulF n1 d1 n2 d2 else divF n1 d1 n2 d2
end Go.Proofs.YtcimmbhdcebehaaGreatDoor
namespace Go.Proofs.YtcimmbhdcebehaaGreatDoor
open Pl
mutual
def AllE (p:Ex→Prop):Ex→Prop
 | .mk k f w o q n d nm ms bs ks=>p (.mk k f w o q n d nm ms bs ks)∧AllKs p ks
def AllKs (p:Ex→Prop):List Ex→Prop
 |[]=>True
 |e::es=>AllE p e∧AllKs p es
end
theorem AllKs_iff {p:Ex→Prop}:∀{es:List Ex},AllKs p es↔∀e∈es,AllE p e
 |[]=>by unfold AllKs;simp
 |e::es=>by unfold AllKs;rw[AllKs_iff];simp
theorem AllE_iff {p:Ex→Prop} {e:Ex}:AllE p e↔p e∧∀k∈e.kids,AllE p k:=by
 cases e;rw[AllE,AllKs_iff];rfl
theorem AllE.top {p:Ex→Prop} {e:Ex} (h:AllE p e):p e:=(AllE_iff.1 h).1
theorem AllE.kid {p:Ex→Prop} {e k:Ex} (h:AllE p e) (hk:k∈e.kids):AllE p k:=(AllE_iff.1 h).2 k hk
theorem AllE.mono {p q:Ex→Prop} (hpq:∀e,p e→q e):∀(n:Nat) (e:Ex),nodesE e≤n→AllE p e→AllE q e
 |0,e,h,_=>absurd (nodes_pos e) (by omega)
 |n+1,e,h,hp=>AllE_iff.2 ⟨hpq e hp.top,fun k hk=>AllE.mono hpq n k (by
   have h1:=nodesKs_mem hk;have h2:nodesE e=1+nodesKs e.kids:=by cases e;rw[nodesE];rfl
   omega) (hp.kid hk)⟩
def Num64 (e:Ex):Prop:=I64 e.kind∧I64 e.fn∧I64 e.window∧I64 e.offset∧I64 e.k∧I64 e.num∧I64 e.den
def Pair3 (e:Ex):Prop:=e.kind=3→e.kids.length=2∧0≤e.fn∧e.fn≤3
def Ex.withKids:Ex→List Ex→Ex
 | .mk k f w o q n d nm ms bs _,ks=> .mk k f w o q n d nm ms bs ks
def foldN (e:Ex):Ex:=
 match e.kids with
 |[a,b]=>if e.kind=3∧a.kind=0∧b.kind=0∧(applyF e.fn a.num a.den b.num b.den).2.2=0 then numE (applyF e.fn a.num a.den b.num b.den).1 (applyF e.fn a.num a.den b.num b.den).2.1 else e
 |_=>e
mutual
def foldR:Ex→Ex
 | .mk k f w o q n d nm ms bs ks=>foldN (.mk k f w o q n d nm ms bs (foldRs ks))
def foldRs:List Ex→List Ex
 |[]=>[]
 |e::es=>foldR e::foldRs es
end
theorem foldRs_map:∀es:List Ex,foldRs es=es.map foldR
 |[]=>by unfold foldRs;rfl
 |e::es=>by unfold foldRs;rw[foldRs_map es];rfl
theorem foldR_eq (e:Ex):foldR e=foldN (e.withKids (e.kids.map foldR)):=by
 cases e;rw[foldR,foldRs_map];rfl
section
variable (e:Ex) (ks:List Ex)
theorem wk_kind:(e.withKids ks).kind=e.kind:=by cases e;rfl
theorem wk_fn:(e.withKids ks).fn=e.fn:=by cases e;rfl
theorem wk_kids:(e.withKids ks).kids=ks:=by cases e;rfl
theorem wk_num64 (h:Num64 e):Num64 (e.withKids ks):=by cases e;exact h
theorem wk_ms:(e.withKids ks).ms=e.ms:=by cases e;rfl
theorem wk_bys:(e.withKids ks).bys=e.bys:=by cases e;rfl
end
theorem foldN_two {e a b:Ex} {x y:Int} (hk:e.kids=[a,b]) (h3:e.kind=3) (ha:a.kind=0) (hb:b.kind=0) (h:applyF e.fn a.num a.den b.num b.den=(x,y,0)):foldN e=numE x y:=by
 unfold foldN;rw[hk];simp only[h];rw[if_pos ⟨h3,ha,hb,trivial⟩]
theorem foldN_bad {e a b:Ex} {x y er:Int} (hk:e.kids=[a,b]) (h:applyF e.fn a.num a.den b.num b.den=(x,y,er)) (he:er≠0):foldN e=e:=by
 unfold foldN;rw[hk];simp only[h];rw[if_neg fun h=>he h.2.2.2]
theorem foldN_not {e:Ex} (h:e.kind=3→∃a b,e.kids=[a,b]∧¬(a.kind=0∧b.kind=0)):foldN e=e:=by
 unfold foldN;split
 ·rename_i a b hk
  rw[if_neg];rintro⟨h3,ha,hb, -⟩;obtain⟨a',b',hk',hn⟩:=h h3;rw[hk]at hk';injection hk' with e1 e2;injection e2 with e2 _;subst e1 e2;exact hn ⟨ha,hb⟩
 rfl
theorem redF_64 {z:Int} {d:Nat} {x y er:Int} (h:redF z d=(x,y,er)):I64 x∧I64 y:=by
 unfold redF at h;split at h
 ·rename_i hc
  simp only[Prod.mk.injEq]at h;obtain⟨rfl,rfl, -⟩:=h;unfold I64;have h1:(z.tdiv ((z.natAbs.gcd d:Nat):Int)).natAbs=z.natAbs/z.natAbs.gcd d:=by rw[Int.natAbs_tdiv,Int.natAbs_natCast];rfl
  generalize z.tdiv ((z.natAbs.gcd d:Nat):Int)=a at*;generalize d/z.natAbs.gcd d=b at*;omega
 simp only[Prod.mk.injEq]at h;obtain⟨rfl,rfl, -⟩:=h;unfold I64;omega
theorem zero64:I64 0∧I64 0:=by unfold I64;omega
theorem mulF_64 {n1 d1 n2 d2 x y er:Int} (h:mulF n1 d1 n2 d2=(x,y,er)):I64 x∧I64 y:=by
 unfold mulF at h;split at h
 ·exact redF_64 h
 simp only[Prod.mk.injEq]at h;obtain⟨rfl,rfl, -⟩:=h;exact zero64
theorem addF_64 {n1 d1 n2 d2 x y er:Int} (h:addF n1 d1 n2 d2=(x,y,er)):I64 x∧I64 y:=by
 unfold addF at h;split at h
 ·exact redF_64 h
 simp only[Prod.mk.injEq]at h;obtain⟨rfl,rfl, -⟩:=h;exact zero64
theorem applyF_64 {fn n1 d1 n2 d2 x y er:Int} (h:applyF fn n1 d1 n2 d2=(x,y,er)):I64 x∧I64 y:=by
 unfold applyF at h;split at h
 ·exact addF_64 h
 split at h
 ·unfold subF at h;split at h
  ·exact addF_64 h
  simp only[Prod.mk.injEq]at h;obtain⟨rfl,rfl, -⟩:=h;exact zero64
 split at h
 ·exact mulF_64 h
 unfold divF at h;split at h
 ·split at h
  ·simp only[Prod.mk.injEq]at h;obtain⟨rfl,rfl, -⟩:=h;exact zero64
  split at h
  ·exact mulF_64 h
  exact mulF_64 h
 simp only[Prod.mk.injEq]at h;obtain⟨rfl,rfl, -⟩:=h;exact zero64
theorem foldN_cases (e:Ex):foldN e=e∨∃x y,I64 x∧I64 y∧foldN e=numE x y:=by
 unfold foldN;split
 ·split
  ·exact .inr ⟨_,_,(applyF_64 rfl).1,(applyF_64 rfl).2,rfl⟩
  exact .inl rfl
 exact .inl rfl
theorem foldN_64 {e:Ex} (h:Num64 e):Num64 (foldN e):=by
 rcases foldN_cases e with h1|⟨x,y,hx,hy,h1⟩
 ·rw[h1];exact h
 rw[h1];have h0:I64 0:=zero64.1;exact⟨h0,h0,h0,h0,h0,hx,hy⟩
theorem foldR_64 {e:Ex} (h:Num64 e):Num64 (foldR e):=by
 rw[foldR_eq];exact foldN_64 (wk_num64 e _ h)
end Go.Proofs.YtcimmbhdcebehaaGreatDoor
