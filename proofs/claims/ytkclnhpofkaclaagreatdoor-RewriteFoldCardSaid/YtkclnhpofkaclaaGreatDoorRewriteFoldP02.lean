/- What the card of the law stands on: Tree, TreePl, BinE, Ord. -/
import Derived.Test.YtkclnhpofkaclaaGreatDoorRewriteFoldP01
import Derived.Deep.MidRow
import Derived.OrdersHeld
import Derived.StillTail
set_option maxRecDepth 100000
set_option maxHeartbeats 12800000
set_option linter.unusedVariables false
set_option linter.unusedSimpArgs false
namespace Go.Proofs.YtkclnhpofkaclaaGreatDoor
open Go.RowKit
abbrev Mt:=ByteArray×Int×ByteArray
inductive Ex where
 |mk (kind fn window offset k num den:Int) (name:ByteArray) (ms:List Mt) (bys:List ByteArray) (kids:List Ex)
namespace Ex
def kind:Ex→Int| .mk a _ _ _ _ _ _ _ _ _ _=>a
def fn:Ex→Int| .mk _ a _ _ _ _ _ _ _ _ _=>a
def window:Ex→Int| .mk _ _ a _ _ _ _ _ _ _ _=>a
def offset:Ex→Int| .mk _ _ _ a _ _ _ _ _ _ _=>a
def k:Ex→Int| .mk _ _ _ _ a _ _ _ _ _ _=>a
def num:Ex→Int| .mk _ _ _ _ _ a _ _ _ _ _=>a
def den:Ex→Int| .mk _ _ _ _ _ _ a _ _ _ _=>a
def name:Ex→ByteArray| .mk _ _ _ _ _ _ _ a _ _ _=>a
def ms:Ex→List Mt| .mk _ _ _ _ _ _ _ _ a _ _=>a
def bys:Ex→List ByteArray| .mk _ _ _ _ _ _ _ _ _ a _=>a
def kids:Ex→List Ex| .mk _ _ _ _ _ _ _ _ _ _ a=>a
end Ex
def A8 (e:Ex) (vm vb vk:Value):List Value:=[.int .i64 e.kind,.int .i64 e.fn,.int .i64 e.window,.int .i64 e.offset,.int .i64 e.k,.int .i64 e.num,.int .i64 e.den,.string e.name,vm,vb,vk]
def Bs (w:World) (B sz:Nat) (v:Value) (rows:List (List Value)):Prop:=
 ∃A c,v= .slice A rows.length c∧rows.length≤c∧(0<rows.length→∃b o,A=some ⟨b,o,none⟩∧b<B∧∀j cs,rows[j]? =some cs→w.rangeAt b (o+j*sz) cs)
def AL (m:Mt):List Value:=[.string m.1,.int .i64 m.2.1,.string m.2.2]
mutual
def BC (w:World) (B:Nat):Ex→List Value→Prop
 | .mk kind fn window offset k num den name ms bys kids,cs=>∃vm vb vk,cs=A8 (.mk kind fn window offset k num den name ms bys kids) vm vb vk∧Bs w B 3 vm (ms.map AL)∧Bs w B 1 vb (bys.map fun s=>[Value.string s])∧
   ∃A c,vk= .slice A kids.length c∧kids.length≤c∧(0<kids.length→∃b o,A=some ⟨b,o,none⟩∧b<B∧Dd w B b o kids)
def Dd (w:World) (B b o:Nat):List Ex→Prop
 |[]=>True
 |e::es=>(∃cs,w.rangeAt b o cs∧BC w B e cs)∧Dd w B b (o+11) es
end
section
variable {w w':World} {B B':Nat}
theorem AR {S:Nat→Prop} {b o:Nat} {cs:List Value} (h:w.rangeAt b o cs) (hb:b<w.heap.size) (hk:A4 S w w') (hs:¬S b):w'.rangeAt b o cs:=fun j u hu=>
 (World.cell?_of_block (a:=⟨b,o+j,none⟩) (hk.block b hb hs)).trans (h j u hu)
theorem Bs.keep {S:Nat→Prop} {sz:Nat} {v:Value} {rows:List (List Value)} (h:Bs w B sz v rows) (hB:B≤w.heap.size) (hB':B≤B') (hk:A4 S w w') (hs:∀i,i<B→¬S i):Bs w' B' sz v rows:=by
 obtain⟨A,c,hv,hc,hx⟩:=h;refine⟨A,c,hv,hc,fun hn=>?_⟩;obtain⟨b,o,e,hb,hcell⟩:=hx hn;exact⟨b,o,e,by omega,fun j cs hj=>AR (hcell j cs hj) (by omega) hk (hs _ hb)⟩
mutual
theorem BC.keep {S:Nat→Prop} (hB:B≤w.heap.size) (hB':B≤B') (hk:A4 S w w') (hs:∀i,i<B→¬S i):∀(e:Ex) (cs:List Value),BC w B e cs→BC w' B' e cs
 | .mk kind fn window offset k num den name ms bys kids,cs,h=>by
  unfold BC at h ⊢;obtain⟨vm,vb,vk,h1,h2,h3,A,c,h4,h5,h6⟩:=h;refine⟨vm,vb,vk,h1,h2.keep hB hB' hk hs,h3.keep hB hB' hk hs,A,c,h4,h5,fun hn=>?_⟩;obtain⟨b,o,e1,hb,hks⟩:=h6 hn;exact⟨b,o,e1,by omega,Dd.keep hB hB' hk hs b hb kids o hks⟩
theorem Dd.keep {S:Nat→Prop} (hB:B≤w.heap.size) (hB':B≤B') (hk:A4 S w w') (hs:∀i,i<B→¬S i) (b:Nat) (hb:b<B):∀(es:List Ex) (o:Nat),Dd w B b o es→Dd w' B' b o es
 |[],_,_=>by unfold Dd;trivial
 |e::es,o,h=>by
  unfold Dd at h ⊢;obtain⟨⟨cs,h1,h2⟩,h3⟩:=h;exact⟨⟨cs,AR h1 (by omega) hk (hs _ hb),BC.keep hB hB' hk hs e cs h2⟩,Dd.keep hB hB' hk hs b hb es (o+11) h3⟩
end
theorem BC.grew {e:Ex} {cs:List Value} (h:BC w w.heap.size e cs) (g:A5 w w'):BC w' w'.heap.size e cs:=BC.keep (Ua _) g.size g (fun _ _ h=>h) e cs h
theorem Dd.at_ {b:Nat}:∀{es:List Ex} {o j:Nat} {e:Ex},Dd w B b o es→es[j]? =some e→∃cs,w.rangeAt b (o+j*11) cs∧BC w B e cs
 |e::es,o,0,e',h,hj=>by
  unfold Dd at h;obtain rfl:e=e':=by simpa using hj
  simpa using h.1
 |e::es,o,j+1,e',h,hj=>by
  unfold Dd at h;have:=Dd.at_ (j:=j) h.2 (by simpa using hj);rwa[show o+11+j*11=o+(j+1)*11 by omega]at this
end
end Go.Proofs.YtkclnhpofkaclaaGreatDoor
namespace Go.Proofs.YtkclnhpofkaclaaGreatDoor
mutual
def AD:Ex→Nat
 | .mk _ _ _ _ _ _ _ _ _ _ kids=>1+AO kids
def AO:List Ex→Nat
 |[]=>0
 |e::es=>AD e+AO es
end
mutual
def Ae:Ex→Nat
 | .mk _ _ _ _ _ _ _ _ _ _ kids=>AY kids+1
def AY:List Ex→Nat
 |[]=>0
 |e::es=>max (Ae e) (AY es)
end
mutual
def GD:Ex→Ex→Bool
 | .mk k f w o q n d nm ms bs ks,.mk k' f' w' o' q' n' d' nm' ms' bs' ks'=>
  decide (k=k'∧f=f'∧w=w'∧o=o'∧q=q'∧n=n'∧d=d'∧nm=nm'∧ms=ms'∧bs=bs')&&FA ks ks'
def FA:List Ex→List Ex→Bool
 |[],[]=>true
 |a::ax,b::bs=>GD a b&&FA ax bs
 |_,_=>false
end
def Ay (n d:Int):Ex:= .mk 0 0 0 0 0 n d ⟨#[]⟩ [] [] []
def Qh (F:Int→Int×Int→Int×Int→Option (Int×Int)) (e:Ex):Ex:=
 match e with
 | .mk 3 fn w o q n d nm ms bs [a,b]=>if a.kind=0∧b.kind=0 then(match F fn (a.num,a.den) (b.num,b.den)with
  |some (x,y)=>Ay x y
  |none=>e)else e
 |e=>e
mutual
def T0 (F:Int→Int×Int→Int×Int→Option (Int×Int)):Ex→Ex
 | .mk k f w o q n d nm ms bs ks=>Qh F (.mk k f w o q n d nm ms bs (PE F ks))
def PE (F:Int→Int×Int→Int×Int→Option (Int×Int)):List Ex→List Ex
 |[]=>[]
 |e::es=>T0 F e::PE F es
end
theorem AZ (e:Ex):1≤AD e:=by
 cases e;unfold AD;omega
theorem AT:∀{es:List Ex} {e:Ex},e∈es→AD e≤AO es
 |a::ax,e,h=>by
  unfold AO;rcases List.mem_cons.1 h with rfl|h
  ·omega
  have:=AT h;omega
theorem Hq:∀{es:List Ex} {e:Ex},e∈es→Ae e≤AY es
 |a::ax,e,h=>by
  unfold AY;rcases List.mem_cons.1 h with rfl|h
  ·omega
  have:=Hq h;omega
def Af (f:Int) (a b:Ex):Ex:= .mk 3 f 0 0 0 0 0 ⟨#[]⟩ [] [] [a,b]
end Go.Proofs.YtkclnhpofkaclaaGreatDoor
namespace Go.Proofs.YtkclnhpofkaclaaGreatDoor
open Go Go.RowKit
section
variable {P:Program} {ops:Array Oper} {Q:Exit→Act→World→Prop} {md:Region.Mode}
def Q1 (md:Region.Mode) (ops:Array Oper) (m i:Nat):Bool:=match ops[i]? with
 |some o=>o.guard.isNone&&(o.op.operands.all fun x=>match x with
   | .tmp t=>(List.range m).all fun j=>(match ops[j]? with|some oj=>oj.dst !=some t||Region.waitsFor md ops i j|none=>true)
   |_=>true)
 |none=>false
def L5 (md:Region.Mode) (ops:Array Oper):Bool:=(List.range ops.size).all fun i=>match ops[i]? with
 |some o=>o.after.all fun e=> !Region.binds md e||decide (e.on<i)
 |none=>true
def Sd (md:Region.Mode) (ops:Array Oper) (m:Nat):Bool:=(List.range ops.size).all fun i=>decide (i<m)||(List.range m).all fun j=>Region.waitsFor md ops i j
def Gz (md:Region.Mode) (ops:Array Oper) (m:Nat):Bool:=decide (m≤ops.size)&&(List.range m).all (Q1 md ops m)&&L5 md ops&&Sd md ops m
def Dh:Nat→Array Bool→Nat
 |0,_=>0
 |k+1,l=>Dh k l+if l.getD k false then 0 else 1
theorem EF {l:Array Bool} {i:Nat} (h:i<l.size):(l.setIfInBounds i true).getD i false=true:=by simp[Array.getD,h]
theorem NG (l:Array Bool):∀(m i:Nat),m≤i→Dh m (l.setIfInBounds i true)=Dh m l
 |0,_,_=>rfl
 |m+1,i,h=>by
  unfold Dh;rw[NG l m i (by omega),getD_set_ne false (by omega)]
theorem GF (l:Array Bool):∀(m i:Nat),i<m→i<l.size→l.getD i false=false→Dh m (l.setIfInBounds i true)+1=Dh m l
 |0,_,h,_,_=>absurd h (by omega)
 |m+1,i,h,hs,hl=>by
  unfold Dh;by_cases he:i=m
  ·subst he;rw[NG l i i (Ua _),EF hs,hl];simp
  rw[getD_set_ne false he];have:=GF l m i (by omega) hs hl;omega
theorem EJ {l:Array Bool}:∀{m:Nat},Dh m l=0→∀j,j<m→l.getD j false=true
 |0,_,j,hj=>absurd hj (by omega)
 |m+1,h,j,hj=>by
  unfold Dh at h;by_cases he:j=m
  ·subst he;cases hg:l.getD j false with
   |true=>rfl
   |false=>rw[hg]at h;simp at h
  exact EJ (m:=m) (by omega) j (by omega)
theorem GK {l:Array Bool}:∀{m:Nat},0<Dh m l→∃j,j<m∧l.getD j false=false
 |0,h=>absurd h (by simp[Dh])
 |m+1,h=>by
  unfold Dh at h;cases hg:l.getD m false with
  |false=>exact⟨m,by omega,hg⟩
  |true=>
   rw[hg]at h;obtain⟨j,hj,hl⟩:=GK (m:=m) (by simpa using h);exact⟨j,by omega,hl⟩
def DM (n m:Nat):Array Bool:=((List.range n).map fun i=>decide (i<m)).toArray
theorem KY {l:Array Bool} {m n:Nat} (hs:l.size=n) (h1:∀j,j<m→l.getD j false=true) (h2:∀i,m≤i→l.getD i false=false):l=DM n m:=by
 apply Array.ext
 ·simp[DM,hs]
 intro i hi hi2;have e:l[i]=l.getD i false:=by simp[Array.getD,hi]
 rw[e];simp only[DM,List.getElem_toArray,List.getElem_map,List.getElem_range];by_cases h:i<m
 ·rw[h1 i h];simp[h]
 rw[h2 i (by omega)];simp[h]
structure SO (ops:Array Oper) (m:Nat) (ia:Option Nat) (G:Nat→Act) (w0:World) (B:Nat→World→Prop) (listed:Array Bool) (a:Act) (w:World):Prop where
 ex:∃z,(∀k,(∀j o,j<m→ops[j]? =some o→o.dst=some k→listed.getD j false=true)→a.tmps[k]? =(G z).tmps[k]?)∧a.tmps.size=(G z).tmps.size∧a.defers=(G z).defers∧(∀i,ia=some i→listed.getD i false=true→B z w)
 grew:A5 w0 w
 size:listed.size=ops.size
 tail:∀i,m≤i→listed.getD i false=false
theorem Ba {a:Act} {d k:Tmp} {v:Value}:(a.put (some d) v).tmps[k]? =if d=k then(if d<a.tmps.size then some v else none)else a.tmps[k]? :=by
 simp only[Act.put];rw[Array.getElem?_setIfInBounds]
theorem CH (hb:L5 md ops=true) {listed:Array Bool} (hsz:listed.size=ops.size):∀n i,i≤n→i<ops.size→listed.getD i false=false→Region.ready md ops listed≠[]:=by
 intro n
 induction n with
 |zero=>
  intro i hi hlt hl;obtain rfl:i=0:=by omega
  refine List.ne_nil_of_mem (a:=0) (mem_ready.2 ⟨?_,ops[0],Array.getElem?_eq_getElem hlt,fun e he hbd=>?_⟩)
  ·simpa[Array.getD,hsz,hlt]using hl
  have h:=List.all_eq_true.1 hb 0 (List.mem_range.2 hlt);rw[Array.getElem?_eq_getElem hlt]at h;have h2:=Array.all_eq_true'.1 h e he;simp[hbd]at h2
 |succ n ih=>
  intro i hi hlt hl;by_cases hall:∀e∈(ops[i]'hlt).after,Region.binds md e=true→listed.getD e.on false=true
  ·refine List.ne_nil_of_mem (a:=i) (mem_ready.2 ⟨?_,ops[i],Array.getElem?_eq_getElem hlt,hall⟩);simpa[Array.getD,hsz,hlt]using hl
  simp only[Classical.not_forall]at hall;obtain⟨e,he,hbd,hno⟩:=hall;have h:=List.all_eq_true.1 hb i (List.mem_range.2 hlt);rw[Array.getElem?_eq_getElem hlt]at h;have h2:=Array.all_eq_true'.1 h e he;simp only[hbd,Bool.not_true,Bool.false_or,decide_eq_true_eq]at h2;exact ih e.on (by omega) (by omega) (by simpa using hno)
theorem Cl {o:Oper} (hns:∀cs b,o.op≠.select cs b) {a g:Act} {w:World} {R:World→Prop} {K:Act→World→Prop} (h:o.wp P g w (fun a' w'=>a'=g∧R w') (fun _ _ _=>False))
  (hops:∀x∈o.op.operands,a.eval x=g.eval x) (hK:∀v w',g.put o.dst v=g→R w'→K (a.put o.dst v) w'):o.wp P a w K Q:=by
 unfold Oper.wp at*;rw[execOp_congr o hns hops];generalize (execOp g.eval o).run P w=r at*;cases r with
 |ok n w'=>
  cases n with
  |value u=>exact hK u w' h.1 h.2
  |skip=>exact hK undef w' h.1 h.2
  |defer d=>
   exfalso;have h1:=congrArg Act.defers h.1;have h2:(({ g with defers:=d::g.defers }:Act).put o.dst undef).defers=d::g.defers:=by cases o.dst<;>rfl
   rw[h2]at h1;have:=congrArg List.length h1;simp at this
  |enter f args=>
   refine Calls.mono h fun e w'' he=>?_
   cases e with
   |returned v=>exact hK v w'' he.1 he.2
   |panicked c=>exact he.elim
   |outgrown=>obtain⟨_,_,h0⟩:=he;exact h0.elim
  |row r args=>exact Rows.mono h fun v w'' he=>hK v w'' he.1 he.2
  |_=>exact False.elim h
 |halt x w'=>
  cases x<;>exact False.elim h
theorem FM {m:Nat} (hB0:Gz md ops m=true) (hs:Region.noSelect ops=true) (ia:Option Nat) (d8:Tmp) (G:Nat→Act) (w0:World) (B:Nat→World→Prop)
  (hGk:∀z z' k,k≠d8→(G z).tmps[k]? =(G z').tmps[k]?) (hGs:∀z z',(G z).tmps.size=(G z').tmps.size) (hGd:∀z z',(G z).defers=(G z').defers)
  (hBg:∀z w w',B z w→A5 w w'→B z w')
  (hst:∀i o,i<m→ia≠some i→ops[i]? =some o→∀z w,A5 w0 w→o.wp P (G z) w (fun a' w'=>a'=G z∧A5 w w') (fun _ _ _=>False))
  (hal:∀i o,ia=some i→ops[i]? =some o→o.dst=some d8∧(∀z,(G z).tmps[d8]? =some (.pointer (some ⟨z,0,none⟩)))∧∀a w K,A5 w0 w→(∀z w',A5 w w'→B z w'→K (a.put (some d8) (.pointer (some ⟨z,0,none⟩))) w')→o.wp P a w K Q)
  (T:∀z w fuel,A5 w0 w→(∀i,ia=some i→B z w)→ops.size≤m+fuel→wpAny P md ops Q fuel (DM ops.size m) (G z) w) (hia:∀i,ia=some i→i<m):
  ∀fuel listed a w,SO ops m ia G w0 B listed a w→Dh m listed+(ops.size-m)≤fuel→wpAny P md ops Q fuel listed a w:=by
 unfold Gz at hB0;simp only[Bool.and_eq_true,decide_eq_true_eq]at hB0;obtain⟨⟨⟨hmn,hhd⟩,hbk⟩,htl⟩:=hB0;have hdone:∀fuel listed a w,SO ops m ia G w0 B listed a w→Dh m listed=0→ops.size≤m+fuel→wpAny P md ops Q fuel listed a w:=by
  intro fuel listed a w hI h0 hf;obtain⟨z,hk,hsz,hdf,hBz⟩:=hI.ex;have hall:=EJ h0;have ha:a=G z:=by
   have ht:a.tmps=(G z).tmps:=Array.ext_getElem? fun k=>hk k fun j o hj _ _=>hall j hj
   cases a;cases hg:G z;rw[hg]at ht hdf;simp at ht hdf;rw[ht,hdf]
  rw[ha,KY hI.size hall hI.tail];exact T z w fuel hI.grew (fun i hi=>hBz i hi (hall i (hia i hi))) hf
 intro fuel
 induction fuel with
 |zero=>intro listed a w hI hc;exact hdone 0 listed a w hI (by omega) (by omega)
 |succ fuel ih=>
  intro listed a w hI hc;rcases Nat.eq_zero_or_pos (Dh m listed)with h0|hpos
  ·exact hdone (fuel+1) listed a w hI h0 (by omega)
  obtain⟨j0,hj0,hl0⟩:=GK hpos;refine⟨fun hr=>absurd hr (CH hbk hI.size j0 j0 (Ua _) (by omega) hl0),fun i hi=>?_⟩;obtain⟨hun,oi,hoi,hdep⟩:=mem_ready.1 hi;have hisz:i<ops.size:=(Ul.1 hoi).1;have hun':listed.getD i false=false:=getD_both hun;have him:i<m:=by
   rcases Nat.lt_or_ge i m with h|h
   ·exact h
   exfalso;have h1:=List.all_eq_true.1 htl i (List.mem_range.2 hisz);simp only[Bool.or_eq_true,decide_eq_true_eq,List.all_eq_true,List.mem_range]at h1;rcases h1 with h1|h1
   ·omega
   have hall:∀j,j<m→listed.getD j false=true:=fun j hj=>by
    obtain⟨o',ho',e,he,hbd,hon⟩:=Region.waitsFor_spec (h1 j hj);obtain rfl:oi=o':=Uf (hoi.symm.trans ho');rw[←hon];exact hdep e he hbd
   have:∀k,k≤m→Dh k listed=0:=by
    intro k
    induction k with
    |zero=>intro _;rfl
    |succ k ihk=>intro hk;unfold Dh;rw[ihk (by omega),hall k (by omega)];rfl
   have:=this m (Ua _);omega
  have hhi:=List.all_eq_true.1 hhd i (List.mem_range.2 him);unfold Q1 at hhi;simp only[hoi,Bool.and_eq_true]at hhi;obtain⟨hgd,hopr⟩:=hhi;have hgd':oi.guard=none:=by simpa using hgd
  have hc':Dh m (listed.setIfInBounds i true)+1=Dh m listed:=GF listed m i him (by rw[hI.size];exact hisz) hun';have htl':∀j,m≤j→(listed.setIfInBounds i true).getD j false=false:=fun j hj=>by rw[getD_set_ne false (by omega)];exact hI.tail j hj
  have hsz':(listed.setIfInBounds i true).size=ops.size:=by rw[Array.size_setIfInBounds,hI.size]
  obtain⟨z,hk,hsz,hdf,hBz⟩:=hI.ex;unfold wpOp;simp only[hoi];rw[Uo (by simp[Region.wanted,hgd'])];refine .inl ?_;by_cases hii:ia=some i
  ·obtain⟨hd,hG8,hal⟩:=hal i oi hii hoi;refine hal a w _ hI.grew fun z' w' hg hb=>ih _ _ _ ⟨⟨z',fun k hkk=>?_,?_,?_,fun _ _ _=>hb⟩,hI.grew.trans hg,hsz',htl'⟩ (by omega)
   ·rw[Ba];by_cases hdk:d8=k
    ·subst hdk;rw[Uo rfl];have h1:=hG8 z';have h2:d8<a.tmps.size:=by
      rw[hsz,hGs z z'];exact(Ul.1 h1).1
     rw[Uo h2,h1]
    rw[Un hdk,hGk z' z k (fun e=>hdk e.symm)];refine hk k fun j o hj ho hod=>?_
    have h1:=hkk j o hj ho hod;by_cases hij:i=j
    ·subst hij;obtain rfl:oi=o:=Uf (hoi.symm.trans ho);rw[hd]at hod;exact absurd (Uf hod) hdk
    rwa[getD_set_ne false hij]at h1
   ·simp only[Act.put,Array.size_setIfInBounds];rw[hsz,hGs z z']
   simp only[Act.put];rw[hdf,hGd z z']
  have hst:=hst i oi him hii hoi z w hI.grew;refine Cl (fun cs b=>Region.noSelect_spec hs i oi cs b hoi) hst (fun x hx=>?_) fun v w' hv hg=>ih _ _ _ ⟨⟨z,fun k hkk=>?_,?_,?_,fun i' hi' hl'=>?_⟩,hI.grew.trans hg,hsz',htl'⟩ (by omega)
  ·cases x with
   |tmp t=>
    have h1:=Array.all_eq_true'.1 hopr _ hx;simp only[List.all_eq_true,List.mem_range]at h1;have h2:a.tmps[t]? =(G z).tmps[t]? :=hk t fun j o hj ho hod=>by
     have h3:=h1 j hj;simp only[ho,hod]at h3;have h4:Region.waitsFor md ops i j=true:=by simpa using h3
     obtain⟨o',ho',e,he,hbd,hon⟩:=Region.waitsFor_spec h4;obtain rfl:oi=o':=Uf (hoi.symm.trans ho');rw[←hon];exact hdep e he hbd
    simp only[Act.eval,Array.getD_eq_getD_getElem?,h2]
   |_=>rfl
  ·cases hd:oi.dst with
   |none=>
    refine hk k fun j o hj ho hod=>?_
    have h1:=hkk j o hj ho hod;by_cases hij:i=j
    ·subst hij;obtain rfl:oi=o:=Uf (hoi.symm.trans ho);rw[hd]at hod;cases hod
    rwa[getD_set_ne false hij]at h1
   |some d=>
    rw[hd]at hv;rw[Ba];by_cases hdk:d=k
    ·subst hdk;rw[Uo rfl];have h1:((G z).put (some d) v).tmps[d]? =(G z).tmps[d]? :=by rw[hv]
     rw[Ba,Uo rfl]at h1;rw[←h1,hsz]
    rw[Un hdk];refine hk k fun j o hj ho hod=>?_
    have h1:=hkk j o hj ho hod;by_cases hij:i=j
    ·subst hij;obtain rfl:oi=o:=Uf (hoi.symm.trans ho);rw[hd]at hod;exact absurd (Uf hod) hdk
    rwa[getD_set_ne false hij]at h1
  ·cases oi.dst with
   |none=>exact hsz
   |some d=>simp only[Act.put,Array.size_setIfInBounds];exact hsz
  ·cases oi.dst with
   |none=>exact hdf
   |some d=>exact hdf
  have hne:i≠i':=fun e=>hii (by rw[e,hi'])
  rw[getD_set_ne false hne]at hl';exact hBg z w w' (hBz i' hi' hl') hg
def BQ:List Oper→List Value→Act→Act
 |o::os,v::vs,a=>BQ os vs (a.put o.dst v)
 |_,_,a=>a
theorem CC:∀(os:List Oper) (vs:List Value) (a:Act) (k:Tmp),(∀o∈os,o.dst≠some k)→(BQ os vs a).tmps[k]? =a.tmps[k]?
 |[],_,_,_,_=>rfl
 |_::_,[],_,_,_=>rfl
 |o::os,v::vs,a,k,h=>by
  unfold BQ;rw[CC os vs _ k fun o' ho'=>h o' (List.mem_cons_of_mem _ ho')];have h1:=h o List.mem_cons_self;cases hd:o.dst with
  |none=>rfl
  |some d=>
   rw[Ba,Un];intro e;rw[hd,e]at h1;exact h1 rfl
theorem Dx (a:Act) (d:Option Tmp) (v:Value):(a.put d v).tmps.size=a.tmps.size∧(a.put d v).defers=a.defers:=by
 cases d with
 |none=>exact⟨rfl,rfl⟩
 |some d=>exact⟨by simp[Act.put],rfl⟩
theorem Al:∀(os:List Oper) (vs:List Value) (a:Act),(BQ os vs a).tmps.size=a.tmps.size∧(BQ os vs a).defers=a.defers
 |[],_,_=>⟨rfl,rfl⟩
 |_::_,[],_=>⟨rfl,rfl⟩
 |o::os,v::vs,a=>by
  unfold BQ;obtain⟨h1,h2⟩:=Al os vs (a.put o.dst v);obtain⟨h3,h4⟩:=Dx a o.dst v;exact⟨h1.trans h3,h2.trans h4⟩
def Cf (P:Program) (w0:World) (ia:Option Nat) (G:Nat→Act):Nat→List Oper→Prop
 |_,[]=>True
 |i,o::r=>(ia≠some i→∀z w,A5 w0 w→o.wp P (G z) w (fun a' w'=>a'=G z∧A5 w w') (fun _ _ _=>False))∧Cf P w0 ia G (i+1) r
theorem Aj {w0:World} {ia:Option Nat} {G:Nat→Act} {i:Nat}:Cf P w0 ia G i []:=trivial
theorem AC {w0:World} {ia:Option Nat} {G:Nat→Act} {i:Nat} {o:Oper} {r:List Oper} (h:∀z w,A5 w0 w→o.wp P (G z) w (fun a' w'=>a'=G z∧A5 w w') (fun _ _ _=>False)) (h2:Cf P w0 ia G (i+1) r):Cf P w0 ia G i (o::r):=⟨fun _=>h,h2⟩
theorem BV {w0:World} {G:Nat→Act} {i:Nat} {o:Oper} {r:List Oper} (h2:Cf P w0 (some i) G (i+1) r):Cf P w0 (some i) G i (o::r):=⟨fun e=>absurd rfl e,h2⟩
theorem Ds {w0:World} {ia:Option Nat} {G:Nat→Act}:∀{l:List Oper} {n:Nat},Cf P w0 ia G n l→∀i o,l[i]? =some o→ia≠some (n+i)→∀z w,A5 w0 w→o.wp P (G z) w (fun a' w'=>a'=G z∧A5 w w') (fun _ _ _=>False)
 |[],_,_,_,_,h,_=>by simp at h
 |_::_,n,h,0,o,ho,hne=>by
  obtain rfl:=Uf ho;exact h.1 hne
 |_::r,n,h,i+1,o,ho,hne=>Ds h.2 i o (by simpa using ho) (by rwa[Uu,Nat.add_comm 1])
theorem GP {m:Nat} {o:Oper} {l:Array Bool} {a:Act} {w:World} (hr1:Region.ready md ops l=[m]) (hr2:Region.ready md ops (l.setIfInBounds m true)=[]) (ho:ops[m]? =some o) (hgd:o.guard=none)
  (h:o.wp P a w (fun a' w'=>Q .normal a' w') Q):∀fuel,1≤fuel→wpAny P md ops Q fuel l a w
 |0,hf=>absurd hf (by omega)
 |fuel+1,_=>by
  refine⟨fun h0=>(by rw[hr1]at h0;cases h0),fun i hi=>?_⟩;rw[hr1]at hi;obtain rfl:i=m:=by simpa using hi
  unfold wpOp;simp only[ho];rw[Uo (by simp[Region.wanted,hgd])];refine .inl ?_;have e:(fun a' w'=>Q .normal a' w')=wpAny P md ops Q fuel (l.setIfInBounds i true):=by
   cases fuel with
   |zero=>funext a' w';simp[wpAny,hr2]
   |succ f=>funext a' w';simp[wpAny,hr2]
  rwa[←e]
theorem MT {o:Oper} {a:Act} {w:World} {K:Act→World→Prop} (T:TypeId) (x y:Operand) (g:Nat) (vs us:List Value) (t:TypeId) (hT:(P.info? T).map (·.size)=some vs.length) (hl:us.length=vs.length) (h1:∀v∈vs,v.oneCell'=true) (ho:o.op= .store T x y)
  (hx:a.eval x= .pointer (some ⟨g,0,none⟩)) (hy:a.eval y= .agg vs.toArray) (hb:AK w g t us.toArray)
  (h:∀w',AK w' g t vs.toArray→A4 (fun i=>i=g) w w'→K (a.put o.dst undef) w'):o.wp P a w K Q:=by
 refine wp_store_mid T x y ho g 0 vs.toArray hx hy (by simpa using hb.thereN 0 vs.length (by omega)) (by simpa using hT) (all_oneCell_toArray h1) ?_;have hp:=hb.putN vs 0 (by omega);have e:us.take 0++vs++us.drop (0+vs.length)=vs:=by simp[←hl]
 rw[e]at hp;exact h _ hp (C2 g vs 0 w).1
theorem PQ {m:Nat} {o o2:Oper} {l:Array Bool} {a:Act} {w:World} (hr1:Region.ready md ops l=[m]) (hr2:Region.ready md ops (l.setIfInBounds m true)=[m+1]) (hr3:Region.ready md ops ((l.setIfInBounds m true).setIfInBounds (m+1) true)=[])
  (ho:ops[m]? =some o) (ho2:ops[m+1]? =some o2) (hgd:o.guard=none) (hgd2:o2.guard=none) (v:Value) (hv:∀w',(execOp a.eval o2).run P w'= .ok (.value v) w')
  (T:TypeId) (x y:Operand) (g:Nat) (vs us:List Value) (t:TypeId) (hT:(P.info? T).map (·.size)=some vs.length) (hl:us.length=vs.length) (h1:∀v∈vs,v.oneCell'=true) (hop:o.op= .store T x y) (hd:o.dst=none)
  (hx:a.eval x= .pointer (some ⟨g,0,none⟩)) (hy:a.eval y= .agg vs.toArray) (hb:AK w g t us.toArray)
  (h:∀w',AK w' g t vs.toArray→A4 (fun i=>i=g) w w'→Q .normal (a.put o2.dst v) w'):∀fuel,2≤fuel→wpAny P md ops Q fuel l a w
 |0,hf=>absurd hf (by omega)
 |fuel+1,hf=>by
  refine⟨fun h0=>(by rw[hr1]at h0;cases h0),fun i hi=>?_⟩;rw[hr1]at hi;obtain rfl:i=m:=by simpa using hi
  unfold wpOp;simp only[ho];rw[Uo (by simp[Region.wanted,hgd])];refine .inl (MT T x y g vs us t hT hl h1 hop hx hy hb fun w' k1 k2=>?_);have e:a.put o.dst undef=a:=by rw[hd];rfl
  rw[e];refine GP hr2 hr3 ho2 hgd2 ?_ fuel (by omega);unfold Oper.wp;rw[hv];exact h w' k1 k2
def T7 (ops:Array Oper) (m:Nat) (k:Tmp):Bool:=(ops.toList.take m).all fun o=>o.dst !=some k
theorem BU {id:Nat} {a:Act} {w:World} (hm:P.follows .mixedOrders=true) (m ia:Nat) (d8:Tmp) (vals:List Value) (ty:TypeId) (zs:List Value) (G:Nat→Act) (hB0:Gz .any ops m=true) (hs:Region.noSelect ops=true) (hia:ia<m) (hn:ops.size=m+1)
  (hG:G=fun z=>(BQ (ops.toList.take m) vals a).put (some d8) (.pointer (some ⟨z,0,none⟩))) (hd8:d8<a.tmps.size) (hda:(ops[ia]?).map (·.dst)=some (some d8))
  (hH:Cf P w.drew (some ia) G 0 (ops.toList.take m))
  (hal:∀o,ops[ia]? =some o→∀a w K,(∀w',w'=w.alloc (.cells zs.toArray ty)→K (a.put o.dst (.pointer (some ⟨w.heap.size,0,none⟩))) w')→o.wp P a w K Q)
  (vs:List Value) (x y:Operand) (T:TypeId) (o:Oper) (ho:ops[m]? =some o) (hgd:o.guard=none) (hop:o.op= .store T x y) (hd:o.dst=none) (hT:(P.info? T).map (·.size)=some vs.length) (hl:zs.length=vs.length) (h1:∀v∈vs,v.oneCell'=true)
  (hx:∀z,(G z).eval x= .pointer (some ⟨z,0,none⟩)) (hy:∀z,(G z).eval y= .agg vs.toArray)
  (hr1:Region.ready .any ops (DM ops.size m)=[m]) (hr2:Region.ready .any ops ((DM ops.size m).setIfInBounds m true)=[])
  (h:∀z w',w.heap.size≤z→AK w' z ty vs.toArray→A5 w w'→Q .normal (G z) w'):(Code.region id ops true).wp P Q a w:=by
 refine wp_region_any hm ?_;have hsz:∀z,(G z).tmps.size=a.tmps.size:=fun z=>by rw[hG];exact(Dx _ _ _).1.trans (Al _ _ _).1
 have hdf:∀z,(G z).defers=a.defers:=fun z=>by rw[hG];exact(Dx _ _ _).2.trans (Al _ _ _).2
 refine FM (m:=m) hB0 hs (some ia) d8 G w.drew (fun z w'=>AK w' z ty zs.toArray∧w.heap.size≤z) ?_ (fun z z'=>by rw[hsz,hsz]) (fun z z'=>by rw[hdf,hdf]) (fun z w1 w2 hb hg=>⟨hb.1.grew hg,hb.2⟩) ?_ ?_ ?_ (fun i hi=>by cases hi;exact hia) ops.size _ _ _ ⟨⟨0,?_,(hsz 0).symm,(hdf 0).symm,?_⟩,Uv _,by simp,?_⟩ ?_
 ·intro z z' k hk;rw[hG];simp only[Ba];rw[Un (fun e=>hk e.symm),Un (fun e=>hk e.symm)]
 ·intro i o' him hne ho' z w1 hg;exact Ds hH i o' (by rw[List.getElem?_take,Uo him];simpa using ho') (by simpa using hne) z w1 hg
 ·intro i o' hi ho';cases hi;rw[ho']at hda;have hdo:o'.dst=some d8:=by simpa using hda
  refine⟨hdo,fun z=>?_,fun a1 w1 K hg hK=>?_⟩
  ·rw[hG];simp only[Ba];rw[Uo trivial,Uo];rw[(Al _ _ _).1];exact hd8
  refine hal o' ho' a1 w1 K fun w' hw'=>?_
  subst hw';rw[hdo];exact hK _ _ ((Uv w1).alloc _) ⟨Ux w1 ty zs.toArray,hg.size⟩
 ·intro z w1 fuel hg hb hf;obtain⟨hb,hz⟩:=hb ia rfl;refine GP hr1 hr2 ho hgd (MT T x y z vs zs ty hT hl h1 hop (hx z) (hy z) hb fun w2 k1 k2=>?_) fuel (by omega);have e:(G z).put o.dst undef=G z:=by rw[hd];rfl
  rw[e];refine h z w2 hz k1 ?_;have hg':A5 w w1:=(Uy (Uv w)).trans hg;exact Uw hg' k2 (fun i hi e=>by omega)
 ·intro k hk;rw[hG];simp only[];rw[Ba];by_cases hkd:d8=k
  ·exfalso;subst hkd;have hex:∃o',ops[ia]? =some o'∧o'.dst=some d8:=by
    cases ho':ops[ia]? with
    |none=>rw[ho']at hda;cases hda
    |some o'=>rw[ho']at hda;exact⟨o',rfl,by simpa using hda⟩
   obtain⟨o',ho',hdo⟩:=hex;have:=hk ia o' hia ho' hdo;rw[getD_replicate_false]at this;cases this
  rw[Un hkd];refine(CC _ _ _ _ fun o' ho' hdo=>?_).symm;obtain⟨j,hj⟩:=List.getElem?_of_mem ho';rw[List.getElem?_take]at hj;split at hj
  ·rename_i hjm
   have:=hk j o' hjm (by simpa using hj) hdo;rw[getD_replicate_false]at this;cases this
  cases hj
 ·intro i hi hl';rw[getD_replicate_false]at hl';cases hl'
 ·intro i hi;rw[getD_replicate_false]
 have:∀k,Dh k (Array.replicate ops.size false)≤k:=by
  intro k
  induction k with
  |zero=>exact Ua _
  |succ k ih=>unfold Dh;split<;>omega
 have:=this m;omega
theorem C8 {id:Nat} {a:Act} {w:World} (hm:P.follows .mixedOrders=true) (m:Nat) (vals:List Value) (G:Act) (hB0:Gz .any ops m=true) (hs:Region.noSelect ops=true) (hn:ops.size=m+2)
  (hG:G=BQ (ops.toList.take m) vals a) (hH:Cf P w.drew none (fun _=>G) 0 (ops.toList.take m))
  (d5:Tmp) (o o2:Oper) (ho:ops[m]? =some o) (ho2:ops[m+1]? =some o2) (hd5:o2.dst=some d5) (hgd:o.guard=none) (hgd2:o2.guard=none) (v:Value) (hv:∀w',(execOp G.eval o2).run P w'= .ok (.value v) w')
  (T:TypeId) (x y:Operand) (g:Nat) (vs us:List Value) (t:TypeId) (hop:o.op= .store T x y) (hd:o.dst=none) (hT:(P.info? T).map (·.size)=some vs.length) (hl:us.length=vs.length) (h1:∀v∈vs,v.oneCell'=true)
  (hx:G.eval x= .pointer (some ⟨g,0,none⟩)) (hy:G.eval y= .agg vs.toArray)
  (hr1:Region.ready .any ops (DM ops.size m)=[m]) (hr2:Region.ready .any ops ((DM ops.size m).setIfInBounds m true)=[m+1]) (hr3:Region.ready .any ops (((DM ops.size m).setIfInBounds m true).setIfInBounds (m+1) true)=[])
  (hb:AK w g t us.toArray) (h:∀w1 w',A5 w w1→AK w' g t vs.toArray→A4 (fun i=>i=g) w1 w'→Q .normal (G.put (some d5) v) w'):(Code.region id ops true).wp P Q a w:=by
 refine wp_region_any hm ?_;have hsz:G.tmps.size=a.tmps.size:=by rw[hG];exact(Al _ _ _).1
 have hdf:G.defers=a.defers:=by rw[hG];exact(Al _ _ _).2
 refine FM (m:=m) hB0 hs none 0 (fun _=>G) w.drew (fun _ _=>True) (fun _ _ _ _=>rfl) (fun _ _=>rfl) (fun _ _=>rfl) (fun _ _ _ _ _=>trivial) ?_ (fun _ _ hi=>by cases hi) ?_ (fun i hi=>by cases hi) ops.size _ _ _ ⟨⟨0,?_,hsz.symm,hdf.symm,fun _ hi=>by cases hi⟩,Uv _,by simp,?_⟩ ?_
 ·intro i o' him hne ho' z w1 hg;exact Ds hH i o' (by rw[List.getElem?_take,Uo him];simpa using ho') (by simp) z w1 hg
 ·intro z w1 fuel hg _ hf;have hg':A5 w w1:=(Uy (Uv w)).trans hg;rw[←hd5]at h;exact PQ hr1 hr2 hr3 ho ho2 hgd hgd2 v hv T x y g vs us t hT hl h1 hop hd hx hy (hb.grew hg') (fun w2 k1 k2=>h w1 w2 hg' k1 k2) fuel (by omega)
 ·intro k hk;rw[hG];refine(CC _ _ _ _ fun o' ho' hdo=>?_).symm;obtain⟨j,hj⟩:=List.getElem?_of_mem ho';rw[List.getElem?_take]at hj;split at hj
  ·rename_i hjm
   have:=hk j o' hjm (by simpa using hj) hdo;rw[getD_replicate_false]at this;cases this
  cases hj
 ·intro i hi;rw[getD_replicate_false]
 have:∀k,Dh k (Array.replicate ops.size false)≤k:=by
  intro k
  induction k with
  |zero=>exact Ua _
  |succ k ih=>unfold Dh;split<;>omega
 have:=this m;omega
theorem Ik {id:Nat} {a:Act} {w:World} (hm:P.follows .mixedOrders=true) (m:Nat) (vals:List Value) (G:Act) (hB0:Gz .any ops m=true) (hs:Region.noSelect ops=true) (hn:ops.size=m+1)
  (hG:G=BQ (ops.toList.take m) vals a) (hH:Cf P w.drew none (fun _=>G) 0 (ops.toList.take m))
  (d5:Tmp) (o:Oper) (ho:ops[m]? =some o) (hd5:o.dst=some d5) (hgd:o.guard=none) (v:Value) (hv:∀w',(execOp G.eval o).run P w'= .ok (.value v) w')
  (hr1:Region.ready .any ops (DM ops.size m)=[m]) (hr2:Region.ready .any ops ((DM ops.size m).setIfInBounds m true)=[])
  (h:∀w1,A5 w w1→Q .normal (G.put (some d5) v) w1):(Code.region id ops true).wp P Q a w:=by
 refine wp_region_any hm ?_;have hsz:G.tmps.size=a.tmps.size:=by rw[hG];exact(Al _ _ _).1
 have hdf:G.defers=a.defers:=by rw[hG];exact(Al _ _ _).2
 refine FM (m:=m) hB0 hs none 0 (fun _=>G) w.drew (fun _ _=>True) (fun _ _ _ _=>rfl) (fun _ _=>rfl) (fun _ _=>rfl) (fun _ _ _ _ _=>trivial) ?_ (fun _ _ hi=>by cases hi) ?_ (fun i hi=>by cases hi) ops.size _ _ _ ⟨⟨0,?_,hsz.symm,hdf.symm,fun _ hi=>by cases hi⟩,Uv _,by simp,?_⟩ ?_
 ·intro i o' him hne ho' z w1 hg;exact Ds hH i o' (by rw[List.getElem?_take,Uo him];simpa using ho') (by simp) z w1 hg
 ·intro z w1 fuel hg _ hf;have hg':A5 w w1:=(Uy (Uv w)).trans hg;refine GP hr1 hr2 ho hgd ?_ fuel (by omega);unfold Oper.wp;rw[hv];have:=h w1 hg';rw[←hd5]at this;exact this
 ·intro k hk;rw[hG];refine(CC _ _ _ _ fun o' ho' hdo=>?_).symm;obtain⟨j,hj⟩:=List.getElem?_of_mem ho';rw[List.getElem?_take]at hj;split at hj
  ·rename_i hjm
   have:=hk j o' hjm (by simpa using hj) hdo;rw[getD_replicate_false]at this;cases this
  cases hj
 ·intro i hi;rw[getD_replicate_false]
 have:∀k,Dh k (Array.replicate ops.size false)≤k:=by
  intro k
  induction k with
  |zero=>exact Ua _
  |succ k ih=>unfold Dh;split<;>omega
 have:=this m;omega
theorem EY {id:Nat} {a:Act} {w:World} (hm:P.follows .mixedOrders=true) (vals:List Value) (G:Act) (hB0:Gz .any ops ops.size=true) (hs:Region.noSelect ops=true)
  (hG:G=BQ ops.toList vals a) (hH:Cf P w.drew none (fun _=>G) 0 ops.toList) (hr:Region.ready .any ops (DM ops.size ops.size)=[])
  (h:∀w1,A5 w w1→Q .normal G w1):(Code.region id ops true).wp P Q a w:=by
 refine wp_region_any hm ?_;have hsz:G.tmps.size=a.tmps.size:=by rw[hG];exact(Al _ _ _).1
 have hdf:G.defers=a.defers:=by rw[hG];exact(Al _ _ _).2
 refine FM (m:=ops.size) hB0 hs none 0 (fun _=>G) w.drew (fun _ _=>True) (fun _ _ _ _=>rfl) (fun _ _=>rfl) (fun _ _=>rfl) (fun _ _ _ _ _=>trivial) ?_ (fun _ _ hi=>by cases hi) ?_ (fun i hi=>by cases hi) ops.size _ _ _ ⟨⟨0,?_,hsz.symm,hdf.symm,fun _ hi=>by cases hi⟩,Uv _,by simp,?_⟩ ?_
 ·intro i o' him hne ho' z w1 hg;exact Ds hH i o' (by simpa using ho') (by simp) z w1 hg
 ·intro z w1 fuel hg _ hf;have hg':A5 w w1:=(Uy (Uv w)).trans hg;cases fuel with
  |zero=>exact⟨hr,h w1 hg'⟩
  |succ f=>exact⟨fun _=>h w1 hg',by rw[hr];simp⟩
 ·intro k hk;rw[hG];refine(CC _ _ _ _ fun o' ho' hdo=>?_).symm;obtain⟨j,hj⟩:=List.getElem?_of_mem ho';have hjs:ops[j]? =some o':=by simpa using hj
  have:=hk j o' (Ul.1 hjs).1 hjs hdo;rw[getD_replicate_false]at this;cases this
 ·intro i hi;rw[getD_replicate_false]
 have:∀k,Dh k (Array.replicate ops.size false)≤k:=by
  intro k
  induction k with
  |zero=>exact Ua _
  |succ k ih=>unfold Dh;split<;>omega
 have:=this ops.size;omega
end
end Go.Proofs.YtkclnhpofkaclaaGreatDoor
