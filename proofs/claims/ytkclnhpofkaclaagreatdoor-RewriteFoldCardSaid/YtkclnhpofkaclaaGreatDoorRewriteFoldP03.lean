/- What the card of the law stands on: OrdG, SeqG, OrdS. -/
import Derived.Test.YtkclnhpofkaclaaGreatDoorRewriteFoldP01
import Derived.Test.YtkclnhpofkaclaaGreatDoorRewriteFoldP02
set_option maxRecDepth 100000
set_option maxHeartbeats 12800000
set_option linter.unusedVariables false
set_option linter.unusedSimpArgs false
namespace Go.Proofs.YtkclnhpofkaclaaGreatDoor
open Go.RowKit
section
variable {P:Program} {ops:Array Oper} {Q:Exit→Act→World→Prop} {md:Region.Mode}
def FU (md:Region.Mode) (ops:Array Oper) (i:Nat) (t:Tmp):Bool:=(List.range ops.size).all fun j=>match ops[j]? with|some oj=>oj.dst !=some t||Region.waitsFor md ops i j|none=>true
def I5 (md:Region.Mode) (ops:Array Oper) (i:Nat):Bool:=match ops[i]? with
 |some o=>(match o.guard with
   |none=>true
   |some (j,_)=>match ops[j]? with
    |some oj=>match oj.dst with
     |some t=>FU md ops i t
     |none=>true
    |none=>true)&&(o.op.operands.all fun x=>match x with
   | .tmp t=>FU md ops i t
   |_=>true)
 |none=>false
def KN (md:Region.Mode) (ops:Array Oper):Bool:=(List.range ops.size).all (I5 md ops)&&L5 md ops
structure RE (ops:Array Oper) (G:Act) (w0:World) (listed:Array Bool) (a:Act) (w:World):Prop where
 ex:∀k,(∀j o,ops[j]? =some o→o.dst=some k→listed.getD j false=true)→a.tmps[k]? =G.tmps[k]?
 sz:a.tmps.size=G.tmps.size
 df:a.defers=G.defers
 grew:A5 w0 w
 size:listed.size=ops.size
theorem N3 {G:Act} {w0:World} {listed:Array Bool} {a:Act} {w:World} {i:Nat} {t:Tmp} {oi:Oper} (hI:RE ops G w0 listed a w) (hoi:ops[i]? =some oi) (hdep:∀e∈oi.after,Region.binds md e=true→listed.getD e.on false=true) (h:FU md ops i t=true):a.tmps[t]? =G.tmps[t]? :=
 hI.ex t fun j o ho hod=>by
  have hj:j<ops.size:=(Ul.1 ho).1;have h3:=List.all_eq_true.1 h j (List.mem_range.2 hj);simp only[ho,hod]at h3;have h4:Region.waitsFor md ops i j=true:=by simpa using h3
  obtain⟨o',ho',e,he,hbd,hon⟩:=Region.waitsFor_spec h4;obtain rfl:oi=o':=Uf (hoi.symm.trans ho');rw[←hon];exact hdep e he hbd
theorem Qs (hB0:KN md ops=true) (hs:Region.noSelect ops=true) (G:Act) (w0:World)
  (hst:∀(i:Nat) (o:Oper),ops[i]? =some o→(Region.wanted o (yielded ops G.tmps)=true→∀w,A5 w0 w→o.wp P G w (fun a' w'=>a'=G∧A5 w w') (fun _ _ _=>False))∧(Region.wanted o (yielded ops G.tmps)=false→G.put o.dst undef=G))
  (T:∀w fuel,A5 w0 w→wpAny P md ops Q fuel (DM ops.size ops.size) G w):
  ∀fuel listed a w,RE ops G w0 listed a w→Dh ops.size listed≤fuel→wpAny P md ops Q fuel listed a w:=by
 unfold KN at hB0;simp only[Bool.and_eq_true]at hB0;obtain⟨hhd,hbk⟩:=hB0;have hdone:∀fuel listed a w,RE ops G w0 listed a w→Dh ops.size listed=0→wpAny P md ops Q fuel listed a w:=by
  intro fuel listed a w hI h0;have hall:=EJ h0;have ha:a=G:=by
   have ht:a.tmps=G.tmps:=Array.ext_getElem? fun k=>hI.ex k fun j o ho _=>hall j (Ul.1 ho).1
   have hd:=hI.df;cases a;cases G;simp at ht hd;rw[ht,hd]
  rw[ha,KY hI.size hall (fun i hi=>by rw[Array.getD_eq_getD_getElem?,Array.getElem?_eq_none (by rw[hI.size];exact hi)];rfl)];exact T w fuel hI.grew
 intro fuel
 induction fuel with
 |zero=>intro listed a w hI hc;exact hdone 0 listed a w hI (by omega)
 |succ fuel ih=>
  intro listed a w hI hc;rcases Nat.eq_zero_or_pos (Dh ops.size listed)with h0|hpos
  ·exact hdone (fuel+1) listed a w hI h0
  obtain⟨j0,hj0,hl0⟩:=GK hpos;refine⟨fun hr=>absurd hr (CH hbk hI.size j0 j0 (Ua _) (by omega) hl0),fun i hi=>?_⟩;obtain⟨hun,oi,hoi,hdep⟩:=mem_ready.1 hi;have hisz:i<ops.size:=(Ul.1 hoi).1;have hun':listed.getD i false=false:=getD_both hun;have hhi:=List.all_eq_true.1 hhd i (List.mem_range.2 hisz);unfold I5 at hhi;simp only[hoi,Bool.and_eq_true]at hhi;obtain⟨hgd,hopr⟩:=hhi;have hc':Dh ops.size (listed.setIfInBounds i true)+1=Dh ops.size listed:=GF listed ops.size i hisz (by rw[hI.size];exact hisz) hun';have hsz':(listed.setIfInBounds i true).size=ops.size:=by rw[Array.size_setIfInBounds,hI.size]
  have hdep':∀e∈oi.after,Region.binds md e=true→listed.getD e.on false=true:=hdep;have hwt:Region.wanted oi (yielded ops a.tmps)=Region.wanted oi (yielded ops G.tmps):=by
   unfold Region.wanted;cases hg:oi.guard with
   |none=>rfl
   |some p=>
    obtain⟨j,b⟩:=p;rw[hg]at hgd;simp only at hgd ⊢;have:yielded ops a.tmps j=yielded ops G.tmps j:=by
     unfold yielded;cases hoj:ops[j]? with
     |none=>rfl
     |some oj=>
      rw[hoj]at hgd;simp only at hgd;cases hdj:oj.dst with
      |none=>simp[hdj]
      |some t=>
       rw[hdj]at hgd;simp only[Option.bind_some,hdj];rw[N3 hI hoi hdep' hgd]
    rw[this]
  have key:∀v w',(G.put oi.dst v=G)→A5 w w'→RE ops G w0 (listed.setIfInBounds i true) (a.put oi.dst v) w':=fun v w' hv hg=>by
   refine⟨fun k hkk=>?_,?_,?_,hI.grew.trans hg,hsz'⟩
   ·cases hd:oi.dst with
    |none=>
     refine hI.ex k fun j o ho hod=>?_
     have h1:=hkk j o ho hod;by_cases hij:i=j
     ·subst hij;obtain rfl:oi=o:=Uf (hoi.symm.trans ho);rw[hd]at hod;cases hod
     rwa[getD_set_ne false hij]at h1
    |some d=>
     rw[hd]at hv;rw[Ba];by_cases hdk:d=k
     ·subst hdk;rw[Uo rfl];have h1:(G.put (some d) v).tmps[d]? =G.tmps[d]? :=by rw[hv]
      rw[Ba,Uo rfl]at h1;rw[←h1,hI.sz]
     rw[Un hdk];refine hI.ex k fun j o ho hod=>?_
     have h1:=hkk j o ho hod;by_cases hij:i=j
     ·subst hij;obtain rfl:oi=o:=Uf (hoi.symm.trans ho);rw[hd]at hod;exact absurd (Uf hod) hdk
     rwa[getD_set_ne false hij]at h1
   ·cases oi.dst with
    |none=>exact hI.sz
    |some d=>simp only[Act.put,Array.size_setIfInBounds];exact hI.sz
   cases oi.dst with
   |none=>exact hI.df
   |some d=>exact hI.df
  obtain⟨hst1,hst2⟩:=hst i oi hoi;unfold wpOp;simp only[hoi];rw[hwt];cases hww:Region.wanted oi (yielded ops G.tmps)with
  |true=>
   rw[Uo rfl];refine .inl ?_;refine Cl (fun cs b=>Region.noSelect_spec hs i oi cs b hoi) (hst1 hww w hI.grew) (fun x hx=>?_) fun v w' hv hg=>ih _ _ _ (key v w' hv hg) (by omega)
   cases x with
   |tmp t=>
    have h1:=Array.all_eq_true'.1 hopr _ hx;simp only[Act.eval,Array.getD_eq_getD_getElem?,N3 hI hoi hdep' h1]
   |_=>rfl
  |false=>
   rw[Un (by simp)];exact ih _ _ _ (key undef w (hst2 hww) (Uv _)) (by omega)
def BJ (P:Program) (ops:Array Oper) (w0:World) (G:Act):List Oper→Prop
 |[]=>True
 |o::r=>((Region.wanted o (yielded ops G.tmps)=true→∀w,A5 w0 w→o.wp P G w (fun a' w'=>a'=G∧A5 w w') (fun _ _ _=>False))∧(Region.wanted o (yielded ops G.tmps)=false→G.put o.dst undef=G))∧BJ P ops w0 G r
theorem AF {w0:World} {G:Act}:BJ P ops w0 G []:=trivial
theorem D8 {w0:World} {G:Act} {o:Oper} {r:List Oper} (hw:Region.wanted o (yielded ops G.tmps)=true) (h:∀w,A5 w0 w→o.wp P G w (fun a' w'=>a'=G∧A5 w w') (fun _ _ _=>False)) (h2:BJ P ops w0 G r):BJ P ops w0 G (o::r):=⟨⟨fun _=>h,(fun e=>by rw[hw]at e;cases e)⟩,h2⟩
theorem MG {w0:World} {G:Act} {o:Oper} {r:List Oper} (hw:Region.wanted o (yielded ops G.tmps)=false) (h:G.put o.dst undef=G) (h2:BJ P ops w0 G r):BJ P ops w0 G (o::r):=⟨⟨(fun e=>by rw[hw]at e;cases e),fun _=>h⟩,h2⟩
theorem Hp {w0:World} {G:Act} {l:List Oper} (h:BJ P ops w0 G l):∀(i:Nat) (o:Oper),l[i]? =some o→(Region.wanted o (yielded ops G.tmps)=true→∀w,A5 w0 w→o.wp P G w (fun a' w'=>a'=G∧A5 w w') (fun _ _ _=>False))∧(Region.wanted o (yielded ops G.tmps)=false→G.put o.dst undef=G):=by
 induction l with
 |nil=>intro i o ho;simp at ho
 |cons b r ih=>
  intro i o ho;unfold BJ at h;cases i with
  |zero=>
   have e:b=o:=by simpa using ho
   rw[←e];exact h.1
  |succ i=>exact ih h.2 i o (by simpa using ho)
theorem LO {id:Nat} {a:Act} {w:World} (hm:P.follows .mixedOrders=true) (vals:List Value) (G:Act) (hB0:KN .any ops=true) (hs:Region.noSelect ops=true)
  (hG:G=BQ ops.toList vals a) (hH:BJ P ops w.drew G ops.toList) (hr:Region.ready .any ops (DM ops.size ops.size)=[])
  (h:∀w1,A5 w w1→Q .normal G w1):(Code.region id ops true).wp P Q a w:=by
 refine wp_region_any hm ?_;have hsz:G.tmps.size=a.tmps.size:=by rw[hG];exact(Al _ _ _).1
 have hdf:G.defers=a.defers:=by rw[hG];exact(Al _ _ _).2
 refine Qs hB0 hs G w.drew (fun i o ho=>Hp hH i o (by simpa using ho)) ?_ ops.size _ _ _ ⟨fun k hk=>?_,hsz.symm,hdf.symm,Uv _,by simp⟩ ?_
 ·intro w1 fuel hg;have hg':A5 w w1:=(Uy (Uv w)).trans hg;cases fuel with
  |zero=>exact⟨hr,h w1 hg'⟩
  |succ f=>exact⟨fun _=>h w1 hg',by rw[hr];simp⟩
 ·rw[hG];refine(CC _ _ _ k fun o ho=>?_).symm;intro hod;obtain⟨j,hj⟩:=List.getElem?_of_mem ho;have hjo:ops[j]? =some o:=by simpa using hj
  have:=hk j o hjo hod;rw[getD_replicate_false]at this;cases this
 have:∀(n m:Nat),Dh m (Array.replicate n false)≤m:=by
  intro n m
  induction m with
  |zero=>exact Ua _
  |succ m ih=>unfold Dh;split<;>omega
 exact this _ _
end
end Go.Proofs.YtkclnhpofkaclaaGreatDoor
namespace Go.Proofs.YtkclnhpofkaclaaGreatDoor
section
variable {P:Program} {ops:Array Oper} {Q:Exit→Act→World→Prop}
def KU (l:List Oper) (t:Tmp):Bool:=l.all fun o=>o.dst !=some t
def Jb (ops:Array Oper):List Oper→Bool
 |[]=>true
 |o::r=>(match o.guard with
   |none=>true
   |some (j,_)=>match ops[j]? with
    |some oj=>match oj.dst with
     |some t=>KU (o::r) t
     |none=>true
    |none=>true)&&(o.op.operands.all fun x=>match x with
   | .tmp t=>KU (o::r) t
   |_=>true)&&Jb ops r
theorem free_spec {l:List Oper} {t:Tmp} (h:KU l t=true):∀o∈l,o.dst≠some t:=fun o ho e=>by
 have:=List.all_eq_true.1 h o ho;rw[e]at this;simp at this
theorem N0 {G:Act} {w0:World} (T:∀w,A5 w0 w→Q .normal G w):∀(l:List Oper),Jb ops l=true→(∀o∈l,∀cs b,o.op≠.select cs b)→BJ P ops w0 G l→∀(a:Act) (w:World),
  (∀k,(∀o∈l,o.dst≠some k)→a.tmps[k]? =G.tmps[k]?)→a.tmps.size=G.tmps.size→a.defers=G.defers→A5 w0 w→wpList P ops Q l a w
 |[],_,_,_,a,w,hk,hs,hd,hg=>by
  have ht:a.tmps=G.tmps:=Array.ext_getElem? fun k=>hk k fun o ho=>by cases ho
  have:a=G:=by
   cases a;cases G;simp at ht hd;rw[ht,hd]
  subst this;unfold wpList;exact T w hg
 |o::r,hok,hns,hH,a,w,hk,hs,hd,hg=>by
  unfold Jb at hok;simp only[Bool.and_eq_true]at hok;obtain⟨⟨hgd,hopr⟩,hok⟩:=hok;have slot:∀t,KU (o::r) t=true→a.tmps[t]? =G.tmps[t]? :=fun t h=>hk t (free_spec h)
  have hwt:Region.wanted o (yielded ops a.tmps)=Region.wanted o (yielded ops G.tmps):=by
   unfold Region.wanted;cases hg:o.guard with
   |none=>rfl
   |some p=>
    obtain⟨j,b⟩:=p;rw[hg]at hgd;simp only at hgd ⊢;have:yielded ops a.tmps j=yielded ops G.tmps j:=by
     unfold yielded;cases hoj:ops[j]? with
     |none=>rfl
     |some oj=>
      rw[hoj]at hgd;simp only at hgd;cases hdj:oj.dst with
      |none=>simp[hdj]
      |some t=>
       rw[hdj]at hgd;simp only[Option.bind_some,hdj];rw[slot t hgd]
    rw[this]
  have key:∀v w',(G.put o.dst v=G)→A5 w w'→wpList P ops Q r (a.put o.dst v) w':=fun v w' hv hgr=>by
   refine N0 T r hok (fun o' ho'=>hns o' (List.mem_cons_of_mem _ ho')) hH.2 _ _ (fun k hkk=>?_) ?_ ?_ (hg.trans hgr)
   ·cases hdo:o.dst with
    |none=>
     refine hk k fun o' ho'=>?_
     rcases List.mem_cons.1 ho' with rfl|ho'
     ·rw[hdo];simp
     exact hkk o' ho'
    |some d=>
     rw[hdo]at hv;rw[Ba];by_cases hdk:d=k
     ·subst hdk;rw[Uo rfl];have h1:(G.put (some d) v).tmps[d]? =G.tmps[d]? :=by rw[hv]
      rw[Ba,Uo rfl]at h1;rw[←h1,hs]
     rw[Un hdk];refine hk k fun o' ho'=>?_
     rcases List.mem_cons.1 ho' with rfl|ho'
     ·rw[hdo];simpa using hdk
     exact hkk o' ho'
   ·cases o.dst with
    |none=>exact hs
    |some d=>simp only[Act.put,Array.size_setIfInBounds];exact hs
   cases o.dst with
   |none=>exact hd
   |some d=>exact hd
  refine wpList_step fun K hK=>?_
  rw[hwt];obtain⟨hst1,hst2⟩:=hH.1;cases hww:Region.wanted o (yielded ops G.tmps)with
  |true=>
   rw[Uo rfl];have h1:=Cl (Q:=Q) (K:=K) (a:=a) (fun cs b=>hns o List.mem_cons_self cs b) (hst1 hww w hg) (fun x hx=>?_) fun v w' hv hgr=>hK _ _ (key v w' hv hgr)
   ·exact h1
   cases x with
   |tmp t=>
    have h1:=Array.all_eq_true'.1 hopr _ hx;simp only[Act.eval,Array.getD_eq_getD_getElem?,slot t h1]
   |_=>rfl
  |false=>
   rw[Un (by simp)];exact hK _ _ (key undef w (hst2 hww) (Uv _))
theorem Sg {l:List Oper} {a:Act} {w:World} (vals:List Value) (G:Act) (hok:Jb ops l=true) (hns:(l.all fun o=>match o.op with| .select _ _=>false|_=>true)=true)
  (hG:G=BQ l vals a) (hH:BJ P ops w G l) (h:∀w1,A5 w w1→Q .normal G w1):wpList P ops Q l a w:=by
 refine N0 h l hok (fun o ho cs b e=>?_) hH a w (fun k hk=>?_) ?_ ?_ (Uv _)
 ·have:=List.all_eq_true.1 hns o ho;rw[e]at this;cases this
 ·rw[hG];exact(CC _ _ _ k hk).symm
 ·rw[hG];exact(Al _ _ _).1.symm
 rw[hG];exact(Al _ _ _).2.symm
theorem La {id:Nat} {a:Act} {w:World} (vals:List Value) (G:Act) (hok:Jb ops ops.toList=true) (hns:(ops.toList.all fun o=>match o.op with| .select _ _=>false|_=>true)=true)
  (hG:G=BQ ops.toList vals a) (hH:BJ P ops w G ops.toList) (h:∀w1,A5 w w1→Q .normal G w1):(Code.region id ops false).wp P Q a w:=by
 refine wp_region ?_;have h1:=Sg (Q:=Q) vals G hok hns hG hH h;rw[←wpOps_eq_wpList ops.toList 0 (fun j=>by simp)]at h1;rw[List.range_eq_range'];simpa using h1
theorem TM {o:Oper} {a:Act} {w:World} {K:Act→World→Prop} (T:TypeId) (x:Operand) {b k:Nat} {v:Value} (hl:∀(w:World) (v:Value),w.cell? ⟨b,k,none⟩=some v→(loadVar T ⟨b,k,none⟩).run P w= .ok v w) (ho:o.op= .load T x) (hx:a.eval x= .pointer (some ⟨b,k,none⟩)) (hc:w.cell? ⟨b,k,none⟩=some v) (hK:K (a.put o.dst v) w):o.wp P a w K Q:=by
 unfold Oper.wp execOp;simp only[ho,hx,Instr.loadAt,Instr.sureAddr,Sem.run_bind,Sem.run_pure,Result.andThen_ok,hl w v hc];exact hK
end
end Go.Proofs.YtkclnhpofkaclaaGreatDoor
namespace Go.Proofs.YtkclnhpofkaclaaGreatDoor
open Go Go.RowKit
section
variable {P:Program} {ops:Array Oper} {Q:Exit→Act→World→Prop} {md:Region.Mode}
def PJ (md:Region.Mode) (ops:Array Oper) (i:Nat):Bool:=match ops[i]? with
 |some o=>o.guard.isNone&&(o.op.operands.all fun x=>match x with
   | .tmp t=>(List.range ops.size).all fun j=>(match ops[j]? with|some oj=>oj.dst !=some t||Region.waitsFor md ops i j|none=>true)
   |_=>true)
 |none=>false
def Mj (md:Region.Mode) (ops:Array Oper) (s:Nat) (pures:List Nat):Bool:=
 decide (s<ops.size)&&(List.range ops.size).all (PJ md ops)&&L5 md ops&&(List.range ops.size).all fun i=>i==s||pures.contains i||Region.waitsFor md ops s i
structure Se (ops:Array Oper) (s:Nat) (pures:List Nat) (ia:Option Nat) (G:Nat→Act) (w0:World) (B C:Nat→World→Prop) (listed:Array Bool) (a:Act) (w:World):Prop where
 ex:∃z,(∀k,(∀j o,ops[j]? =some o→o.dst=some k→listed.getD j false=true)→a.tmps[k]? =(G z).tmps[k]?)∧a.tmps.size=(G z).tmps.size∧a.defers=(G z).defers∧
  (listed.getD s false=false→A5 w0 w∧(∀i,ia=some i→listed.getD i false=true→B z w))∧(listed.getD s false=true→C z w)
 size:listed.size=ops.size
 shut:listed.getD s false=true→∀i,i<ops.size→pures.contains i=false→listed.getD i false=true
theorem OH {s:Nat} {pures:List Nat} (hB0:Mj md ops s pures=true) (hs:Region.noSelect ops=true) (hps:pures.contains s=false) (ia:Option Nat) (d8:Tmp) (G:Nat→Act) (w0:World) (B C:Nat→World→Prop)
  (hGk:∀z z' k,k≠d8→(G z).tmps[k]? =(G z').tmps[k]?) (hGs:∀z z',(G z).tmps.size=(G z').tmps.size) (hGd:∀z z',(G z).defers=(G z').defers)
  (hBg:∀z w w',B z w→A5 w w'→B z w')
  (hst:∀i o,i≠s→ia≠some i→pures.contains i=false→ops[i]? =some o→∀z w,A5 w0 w→o.wp P (G z) w (fun a' w'=>a'=G z∧A5 w w') (fun _ _ _=>False))
  (hpu:∀i o,pures.contains i=true→ops[i]? =some o→∀z w,o.wp P (G z) w (fun a' w'=>a'=G z∧w'=w) (fun _ _ _=>False))
  (hal:∀i o,ia=some i→ops[i]? =some o→pures.contains i=false∧i≠s∧o.dst=some d8∧(∀z,(G z).tmps[d8]? =some (.pointer (some ⟨z,0,none⟩)))∧∀a w K,A5 w0 w→(∀z w',A5 w w'→B z w'→K (a.put (some d8) (.pointer (some ⟨z,0,none⟩))) w')→o.wp P a w K Q)
  (hstore:∀o,ops[s]? =some o→o.dst=none∧∀z a w K,A5 w0 w→(∀i,ia=some i→B z w)→(∀x∈o.op.operands,a.eval x=(G z).eval x)→(∀w',C z w'→K a w')→o.wp P a w K Q)
  (hend:∀z w,C z w→Q .normal (G z) w) (hia:∀i,ia=some i→i<ops.size):
  ∀fuel listed a w,Se ops s pures ia G w0 B C listed a w→Dh ops.size listed≤fuel→wpAny P md ops Q fuel listed a w:=by
 unfold Mj at hB0;simp only[Bool.and_eq_true,decide_eq_true_eq]at hB0;obtain⟨⟨⟨hsn,hhd⟩,hbk⟩,hwt⟩:=hB0;have hdone:∀listed a w,Se ops s pures ia G w0 B C listed a w→Dh ops.size listed=0→Q .normal a w:=by
  intro listed a w hI h0;obtain⟨z,hk,hsz,hdf, -,hC⟩:=hI.ex;have hall:=EJ h0;have ha:a=G z:=by
   have ht:a.tmps=(G z).tmps:=Array.ext_getElem? fun k=>hk k fun j o ho _=>hall j (Ul.1 ho).1
   cases a;cases hg:G z;rw[hg]at ht hdf;simp at ht hdf;rw[ht,hdf]
  rw[ha];exact hend z w (hC (hall s hsn))
 have hempty:∀listed:Array Bool,Dh ops.size listed=0→Region.ready md ops listed=[]:=by
  intro listed h0;apply List.eq_nil_iff_forall_not_mem.2;intro i hi;obtain⟨hun,oi,hoi, -⟩:=mem_ready.1 hi;have:=EJ h0 i (Ul.1 hoi).1;rw[getD_both hun]at this;cases this
 intro fuel
 induction fuel with
 |zero=>
  intro listed a w hI hc;exact⟨hempty listed (by omega),hdone listed a w hI (by omega)⟩
 |succ fuel ih=>
  intro listed a w hI hc;rcases Nat.eq_zero_or_pos (Dh ops.size listed)with h0|hpos
  ·exact⟨fun _=>hdone listed a w hI h0,by rw[hempty listed h0];simp⟩
  obtain⟨j0,hj0,hl0⟩:=GK hpos;refine⟨fun hr=>absurd hr (CH hbk hI.size j0 j0 (Ua _) hj0 hl0),fun i hi=>?_⟩;obtain⟨hun,oi,hoi,hdep⟩:=mem_ready.1 hi;have hisz:i<ops.size:=(Ul.1 hoi).1;have hun':listed.getD i false=false:=getD_both hun;have hhi:=List.all_eq_true.1 hhd i (List.mem_range.2 hisz);unfold PJ at hhi;simp only[hoi,Bool.and_eq_true]at hhi;obtain⟨hgd,hopr⟩:=hhi;have hgd':oi.guard=none:=by simpa using hgd
  have hc':Dh ops.size (listed.setIfInBounds i true)+1=Dh ops.size listed:=GF listed _ i hisz (by rw[hI.size];exact hisz) hun';have hsz':(listed.setIfInBounds i true).size=ops.size:=by rw[Array.size_setIfInBounds,hI.size]
  obtain⟨z,hk,hsz,hdf,hpre,hpost⟩:=hI.ex;have hoper:∀x∈oi.op.operands,a.eval x=(G z).eval x:=by
   intro x hx;cases x with
   |tmp t=>
    have h1:=Array.all_eq_true'.1 hopr _ hx;simp only[List.all_eq_true,List.mem_range]at h1;have h2:a.tmps[t]? =(G z).tmps[t]? :=hk t fun j o ho hod=>by
     have h3:=h1 j (Ul.1 ho).1;simp only[ho,hod]at h3;have h4:Region.waitsFor md ops i j=true:=by simpa using h3
     obtain⟨o',ho',e,he,hbd,hon⟩:=Region.waitsFor_spec h4;obtain rfl:oi=o':=Uf (hoi.symm.trans ho');rw[←hon];exact hdep e he hbd
    simp only[Act.eval,Array.getD_eq_getD_getElem?,h2]
   |_=>rfl
  have keepk:∀(k:Tmp) (zz:Nat),(∀o,oi.dst=some o→o≠k)→((G zz).tmps[k]? =(G z).tmps[k]?)→(∀j o,ops[j]? =some o→o.dst=some k→(listed.setIfInBounds i true).getD j false=true)→a.tmps[k]? =(G zz).tmps[k]? :=by
   intro k zz hne hzz hkk;rw[hzz];refine hk k fun j o ho hod=>?_
   have h1:=hkk j o ho hod;by_cases hij:i=j
   ·subst hij;obtain rfl:oi=o:=Uf (hoi.symm.trans ho);exact absurd rfl (hne k hod)
   rwa[getD_set_ne false hij]at h1
  have valk:∀v,(G z).put oi.dst v=G z→(∀k,(∀j o,ops[j]? =some o→o.dst=some k→(listed.setIfInBounds i true).getD j false=true)→(a.put oi.dst v).tmps[k]? =(G z).tmps[k]?)∧(a.put oi.dst v).tmps.size=(G z).tmps.size∧(a.put oi.dst v).defers=(G z).defers:=by
   intro v hv;refine⟨fun k hkk=>?_,(Dx _ _ _).1.trans hsz,(Dx _ _ _).2.trans hdf⟩;cases hd:oi.dst with
   |none=>exact keepk k z (fun o h=>by rw[hd]at h;cases h) rfl hkk
   |some d=>
    rw[hd]at hv;rw[Ba];by_cases hdk:d=k
    ·subst hdk;rw[Uo rfl];have h1:((G z).put (some d) v).tmps[d]? =(G z).tmps[d]? :=by rw[hv]
     rw[Ba,Uo rfl]at h1;rw[←h1,hsz]
    rw[Un hdk];exact keepk k z (fun o h=>by rw[hd]at h;cases h;exact hdk) rfl hkk
  unfold wpOp;simp only[hoi];rw[Uo (by simp[Region.wanted,hgd'])];refine .inl ?_;have hns:=fun cs b=>Region.noSelect_spec hs i oi cs b hoi
  by_cases his:i=s
  ·subst his;obtain⟨hdn,hst'⟩:=hstore oi hoi;obtain⟨hg0,hB⟩:=hpre hun';have hlist:∀j,j<ops.size→pures.contains j=false→j≠i→listed.getD j false=true:=by
    intro j hj hpj hji;have h1:=List.all_eq_true.1 hwt j (List.mem_range.2 hj);simp only[Bool.or_eq_true,Ud,hpj,Bool.false_eq_true,or_false]at h1;have h2:=h1.resolve_left hji;obtain⟨o',ho',e,he,hbd,hon⟩:=Region.waitsFor_spec h2;obtain rfl:oi=o':=Uf (hoi.symm.trans ho');rw[←hon];exact hdep e he hbd
   refine hst' z a w _ hg0 (fun i' hi'=>?_) hoper fun w' hC=>ih _ _ _ ⟨⟨z,fun k hkk=>keepk k z (fun o h=>by rw[hdn]at h;cases h) rfl hkk,hsz,hdf,fun h=>?_,fun _=>hC⟩,hsz',fun _ j hj hpj=>?_⟩ (by omega)
   ·have:=hal i' (ops[i']'(hia i' hi')) hi' (Array.getElem?_eq_getElem (hia i' hi'));exact hB i' hi' (hlist i' (hia i' hi') this.1 this.2.1)
   ·rw[EF (by rw[hI.size];exact hisz)]at h;cases h
   by_cases hji:j=i
   ·subst hji;exact EF (by rw[hI.size];exact hisz)
   rw[getD_set_ne false (Ne.symm hji)];exact hlist j hj hpj hji
  have hsl:(listed.setIfInBounds i true).getD s false=listed.getD s false:=getD_set_ne false his;have hshut':(listed.setIfInBounds i true).getD s false=true→∀j,j<ops.size→pures.contains j=false→(listed.setIfInBounds i true).getD j false=true:=fun h j hj hpj=>by
   rw[hsl]at h;exact getD_set_true (hI.shut h j hj hpj)
  by_cases hpi:pures.contains i=true
  ·refine Cl (R:=fun w'=>w'=w) hns (hpu i oi hpi hoi z w) hoper fun v w' hv hw=>?_
   subst hw;obtain⟨h1,h2,h3⟩:=valk v hv;refine ih _ _ _ ⟨⟨z,h1,h2,h3,fun h=>?_,fun h=>?_⟩,hsz',hshut'⟩ (by omega)
   ·rw[hsl]at h;obtain⟨hg0,hB⟩:=hpre h;refine⟨hg0,fun i' hi' hl'=>hB i' hi' ?_⟩;have hne:i≠i':=fun e=>by
     have:=(hal i' (ops[i']'(hia i' hi')) hi' (Array.getElem?_eq_getElem (hia i' hi'))).1;rw[←e,hpi]at this;cases this
    rwa[getD_set_ne false hne]at hl'
   rw[hsl]at h;exact hpost h
  have hpi':pures.contains i=false:=by simpa using hpi
  have hsf:listed.getD s false=false:=by
   cases hx:listed.getD s false with
   |false=>rfl
   |true=>
    have:=hI.shut hx i hisz hpi';rw[hun']at this;cases this
  obtain⟨hg0,hB⟩:=hpre hsf;by_cases hii:ia=some i
  ·obtain⟨-, -,hd,hG8,hal'⟩:=hal i oi hii hoi;refine hal' a w _ hg0 fun z' w' hg hb=>ih _ _ _ ⟨⟨z',fun k hkk=>?_,?_,?_,fun _=>⟨hg0.trans hg,fun _ _ _=>hb⟩,fun h=>?_⟩,hsz',hshut'⟩ (by omega)
   ·rw[Ba];by_cases hdk:d8=k
    ·subst hdk;rw[Uo rfl];have h1:=hG8 z';have h2:d8<a.tmps.size:=by
      rw[hsz,hGs z z'];exact(Ul.1 h1).1
     rw[Uo h2,h1]
    rw[Un hdk];exact keepk k z' (fun o h=>by rw[hd]at h;cases h;exact hdk) (hGk z' z k (fun e=>hdk e.symm)) hkk
   ·simp only[Act.put,Array.size_setIfInBounds];rw[hsz,hGs z z']
   ·simp only[Act.put];rw[hdf,hGd z z']
   rw[hsl,hsf]at h;cases h
  refine Cl (R:=fun w'=>A5 w w') hns (hst i oi his hii hpi' hoi z w hg0) hoper fun v w' hv hg=>?_
  obtain⟨h1,h2,h3⟩:=valk v hv;refine ih _ _ _ ⟨⟨z,h1,h2,h3,fun _=>⟨hg0.trans hg,fun i' hi' hl'=>?_⟩,fun h=>?_⟩,hsz',hshut'⟩ (by omega)
  ·have hne:i≠i':=fun e=>hii (by rw[e,hi'])
   rw[getD_set_ne false hne]at hl';exact hBg z w w' (hB i' hi' hl') hg
  rw[hsl,hsf]at h;cases h
def Bj (P:Program) (w0:World) (ia:Option Nat) (s:Nat) (pures:List Nat) (G:Nat→Act):Nat→List Oper→Prop
 |_,[]=>True
 |i,o::r=>((i≠s→ia≠some i→pures.contains i=false→∀z w,A5 w0 w→o.wp P (G z) w (fun a' w'=>a'=G z∧A5 w w') (fun _ _ _=>False))∧(pures.contains i=true→∀z w,o.wp P (G z) w (fun a' w'=>a'=G z∧w'=w) (fun _ _ _=>False)))∧Bj P w0 ia s pures G (i+1) r
section
variable {w0:World} {ia:Option Nat} {s i:Nat} {pures:List Nat} {G:Nat→Act} {o:Oper} {r:List Oper}
theorem Dj:Bj P w0 ia s pures G i []:=trivial
theorem IN (hp:pures.contains i=false) (h:∀z w,A5 w0 w→o.wp P (G z) w (fun a' w'=>a'=G z∧A5 w w') (fun _ _ _=>False)) (h2:Bj P w0 ia s pures G (i+1) r):Bj P w0 ia s pures G i (o::r):=⟨⟨fun _ _ _=>h,fun e=>by rw[hp]at e;cases e⟩,h2⟩
theorem M8 (hp:pures.contains i=true) (h:∀z w,o.wp P (G z) w (fun a' w'=>a'=G z∧w'=w) (fun _ _ _=>False)) (h2:Bj P w0 ia s pures G (i+1) r):Bj P w0 ia s pures G i (o::r):=⟨⟨fun _ _ e=>(by rw[hp]at e;cases e),fun _=>h⟩,h2⟩
theorem LD (hp:pures.contains i=false) (h2:Bj P w0 ia i pures G (i+1) r):Bj P w0 ia i pures G i (o::r):=⟨⟨fun e=>absurd rfl e,fun e=>by rw[hp]at e;cases e⟩,h2⟩
theorem L4 (hp:pures.contains i=false) (h2:Bj P w0 (some i) s pures G (i+1) r):Bj P w0 (some i) s pures G i (o::r):=⟨⟨fun _ e=>absurd rfl e,fun e=>by rw[hp]at e;cases e⟩,h2⟩
theorem F1:∀{l:List Oper} {n:Nat},Bj P w0 ia s pures G n l→∀i o,l[i]? =some o→(n+i≠s→ia≠some (n+i)→pures.contains (n+i)=false→∀z w,A5 w0 w→o.wp P (G z) w (fun a' w'=>a'=G z∧A5 w w') (fun _ _ _=>False))∧(pures.contains (n+i)=true→∀z w,o.wp P (G z) w (fun a' w'=>a'=G z∧w'=w) (fun _ _ _=>False))
 |[],_,_,_,_,h=>by simp at h
 |_::_,n,h,0,o,ho=>by
  obtain rfl:=Uf ho;exact h.1
 |_::r,n,h,i+1,o,ho=>by
  have:=F1 h.2 i o (by simpa using ho);rwa[Uu,Nat.add_comm 1]at this
end
theorem CU {id:Nat} {a:Act} {w:World} (hm:P.follows .mixedOrders=true) (s ia:Nat) (d8:Tmp) (pures:List Nat) (vals:List Value) (ty:TypeId) (zs:List Value) (G:Nat→Act) (hB0:Mj .any ops s pures=true) (hs:Region.noSelect ops=true) (hps:pures.contains s=false) (hpa:pures.contains ia=false) (hias:ia≠s) (hia:ia<ops.size)
  (hG:G=fun z=>(BQ ops.toList vals a).put (some d8) (.pointer (some ⟨z,0,none⟩))) (hd8:d8<a.tmps.size) (hda:(ops[ia]?).map (·.dst)=some (some d8))
  (hH:Bj P w.drew (some ia) s pures G 0 ops.toList)
  (hal:∀o,ops[ia]? =some o→∀a w K,(∀w',w'=w.alloc (.cells zs.toArray ty)→K (a.put o.dst (.pointer (some ⟨w.heap.size,0,none⟩))) w')→o.wp P a w K Q)
  (vs:List Value) (x y:Operand) (T:TypeId) (o:Oper) (ho:ops[s]? =some o) (hop:o.op= .store T x y) (hd:o.dst=none) (hxo:x∈o.op.operands) (hyo:y∈o.op.operands) (hT:(P.info? T).map (·.size)=some vs.length) (hl:zs.length=vs.length) (h1:∀v∈vs,v.oneCell'=true)
  (hx:∀z,(G z).eval x= .pointer (some ⟨z,0,none⟩)) (hy:∀z,(G z).eval y= .agg vs.toArray)
  (h:∀z w',w.heap.size≤z→AK w' z ty vs.toArray→A5 w w'→Q .normal (G z) w'):(Code.region id ops true).wp P Q a w:=by
 refine wp_region_any hm ?_;have hsz:∀z,(G z).tmps.size=a.tmps.size:=fun z=>by rw[hG];exact(Dx _ _ _).1.trans (Al _ _ _).1
 have hdf:∀z,(G z).defers=a.defers:=fun z=>by rw[hG];exact(Dx _ _ _).2.trans (Al _ _ _).2
 refine OH (s:=s) (pures:=pures) hB0 hs hps (some ia) d8 G w.drew (fun z w'=>AK w' z ty zs.toArray∧w.heap.size≤z) (fun z w'=>w.heap.size≤z∧AK w' z ty vs.toArray∧A5 w w') ?_ (fun z z'=>by rw[hsz,hsz]) (fun z z'=>by rw[hdf,hdf]) (fun z w1 w2 hb hg=>⟨hb.1.grew hg,hb.2⟩) ?_ ?_ ?_ ?_ (fun z w1 hc=>h z w1 hc.1 hc.2.1 hc.2.2) (fun i hi=>by cases hi;exact hia) ops.size _ _ _ ⟨⟨0,?_,(hsz 0).symm,(hdf 0).symm,fun _=>⟨Uv _,?_⟩,?_⟩,by simp,?_⟩ ?_
 ·intro z z' k hk;rw[hG];simp only[Ba];rw[Un (fun e=>hk e.symm),Un (fun e=>hk e.symm)]
 ·intro i o' his hne hp ho' z w1 hg;exact(F1 hH i o' (by simpa using ho')).1 (by simpa using his) (by simpa using hne) (by simpa using hp) z w1 hg
 ·intro i o' hp ho' z w1;exact(F1 hH i o' (by simpa using ho')).2 (by simpa using hp) z w1
 ·intro i o' hi ho';cases hi;rw[ho']at hda;have hdo:o'.dst=some d8:=by simpa using hda
  refine⟨hpa,hias,hdo,fun z=>?_,fun a1 w1 K hg hK=>?_⟩
  ·rw[hG];simp only[Ba];rw[Uo trivial,Uo];rw[(Al _ _ _).1];exact hd8
  refine hal o' ho' a1 w1 K fun w' hw'=>?_
  subst hw';rw[hdo];exact hK _ _ ((Uv w1).alloc _) ⟨Ux w1 ty zs.toArray,hg.size⟩
 ·intro o' ho';obtain rfl:o=o':=Uf (ho.symm.trans ho');refine⟨hd,fun z a1 w1 K hg hb hev hK=>?_⟩;obtain⟨hb,hz⟩:=hb ia rfl;refine MT T x y z vs zs ty hT hl h1 hop ((hev x hxo).trans (hx z)) ((hev y hyo).trans (hy z)) hb fun w2 k1 k2=>?_
  have e:a1.put o.dst undef=a1:=by rw[hd];rfl
  rw[e];have hg':A5 w w1:=(Uy (Uv w)).trans hg;exact hK w2 ⟨hz,k1,Uw hg' k2 (fun i hi e=>by omega)⟩
 ·intro k hk;rw[hG];simp only[];rw[Ba];by_cases hkd:d8=k
  ·exfalso;subst hkd;have hex:∃o',ops[ia]? =some o'∧o'.dst=some d8:=by
    cases ho':ops[ia]? with
    |none=>rw[ho']at hda;cases hda
    |some o'=>rw[ho']at hda;exact⟨o',rfl,by simpa using hda⟩
   obtain⟨o',ho',hdo⟩:=hex;have:=hk ia o' ho' hdo;rw[getD_replicate_false]at this;cases this
  rw[Un hkd];refine(CC _ _ _ _ fun o' ho' hdo=>?_).symm;obtain⟨j,hj⟩:=List.getElem?_of_mem ho';have:=hk j o' (by simpa using hj) hdo;rw[getD_replicate_false]at this;cases this
 ·intro i hi hl';rw[getD_replicate_false]at hl';cases hl'
 ·intro hl';rw[getD_replicate_false]at hl';cases hl'
 ·intro hl';rw[getD_replicate_false]at hl';cases hl'
 have:∀k,Dh k (Array.replicate ops.size false)≤k:=by
  intro k
  induction k with
  |zero=>exact Ua _
  |succ k ih=>unfold Dh;split<;>omega
 exact this ops.size
end
end Go.Proofs.YtkclnhpofkaclaaGreatDoor
