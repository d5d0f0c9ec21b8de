/- What the card of the law stands on: Late, LateC, ParC, ParD, Lives, CPlain, Row4, CPl2, Encb, Box4, Encode. -/
import Derived.OrdersHeld
import Derived.StillTail
import Derived.Deep.MidRow
import Derived.Test.YthpflelgbadkcaaGreatDoorRewriteTypesP06
import Derived.Test.YthpflelgbadkcaaGreatDoorRewriteTypesP04
import Derived.Test.YthpflelgbadkcaaGreatDoorRewriteTypesP01
set_option maxRecDepth 100000
set_option maxHeartbeats 12800000
set_option linter.unusedVariables false
set_option linter.unusedSimpArgs false
namespace Go.Proofs.YthpflelgbadkcaaGreatDoor
open Go
section
variable {P:Program} {ops:Array Oper} {Q:Exit→Act→World→Prop} {md:Region.Mode} {Gs:List (Nat×(World→Prop))}
def B6 (Gs:List (Nat×(World→Prop))) (listed:Array Bool) (w:World):Prop:=∀p∈Gs,listed.getD p.1 false=false→p.2 w
def Ae (md:Region.Mode) (ops:Array Oper) (listed:Array Bool):Prop:=
 ∀j oj,ops[j]? =some oj→listed.getD j false=true→∀e∈oj.after,Region.binds md e=true→listed.getD e.on false=true
theorem Ae.start (n:Nat):Ae md ops (Array.replicate n false):=fun j oj _ hl=>by
 rw[getD_replicate_false]at hl;cases hl
theorem Ae.set {i:Nat} {listed:Array Bool} (h:Ae md ops listed) (hi:i∈Region.ready md ops listed):Ae md ops (listed.setIfInBounds i true):=fun j oj hj hl e he hb=>by
 obtain⟨_,oi,hoi,hall⟩:=mem_ready.1 hi;by_cases hij:i=j
 ·subst hij;have:oj=oi:=VE (hj.symm.trans hoi);subst this;exact getD_set_true (hall e he hb)
 rw[getD_set_ne false hij]at hl;exact getD_set_true (h j oj hj hl e he hb)
theorem Ae.before {i s:Nat} {listed:Array Bool} (h:Ae md ops listed) (hun:listed.getD i true=false) (hw:Region.waitsFor md ops s i=true):listed.getD s false=false:=by
 obtain⟨oj,hoj,e,he,hb,hon⟩:=Region.waitsFor_spec hw;cases hl:listed.getD s false with
 |false=>rfl
 |true=>
  have h2:=h s oj hoj hl e he hb;rw[hon,getD_both hun]at h2;cases h2
theorem Ae.before' {i s:Nat} {listed:Array Bool} (h:Ae md ops listed) (hun:listed.getD i false=false) (hw:Region.waitsFor md ops s i=true):listed.getD s false=false:=by
 obtain⟨oj,hoj,e,he,hb,hon⟩:=Region.waitsFor_spec hw;cases hl:listed.getD s false with
 |false=>rfl
 |true=>
  have h2:=h s oj hoj hl e he hb;rw[hon,hun]at h2;cases h2
def JI (md:Region.Mode) (ops:Array Oper):List Nat→Bool
 |a::b::r=>Region.waitsFor md ops a b&&JI md ops (b::r)
 |_=>true
theorem Ae.path {i:Nat} {listed:Array Bool} (h:Ae md ops listed) (hun:listed.getD i false=false):∀(mid:List Nat) (s:Nat),JI md ops (s::(mid++[i]))=true→listed.getD s false=false
 |[],s,hw=>h.before' hun (by simpa[JI]using hw)
 |k::mid,s,hw=>by
  simp only[List.cons_append,JI,Bool.and_eq_true]at hw;exact h.before' (h.path hun mid k hw.2) hw.1
def Rq (md:Region.Mode) (ops:Array Oper) (Gs:List (Nat×(World→Prop))) (i:Nat) (w:World):Prop:=∃l,Ae md ops l∧l.getD i true=false∧B6 Gs l w
def BA (P:Program) (md:Region.Mode) (ops:Array Oper) (Q:Exit→Act→World→Prop) (Gs:List (Nat×(World→Prop))):Nat→Array Bool→Act→World→Prop
 |0,listed,a,w=>Region.ready md ops listed=[]∧Q .normal a w
 |fuel+1,listed,a,w=>
  (Region.ready md ops listed=[]→Q .normal a w)∧
  ∀i∈Region.ready md ops listed,wpOp P ops Q i (fun a' w'=>B6 Gs (listed.setIfInBounds i true) w'∧BA P md ops Q Gs fuel (listed.setIfInBounds i true) a' w') a w
theorem JA:∀(fuel:Nat) (listed:Array Bool) (a:Act) (w:World),BA P md ops Q Gs fuel listed a w→wpAny P md ops Q fuel listed a w
 |0,_,_,_,h=>h
 |fuel+1,_,_,_,h=>⟨h.1,fun i hi=>wpOp_mono (fun a' w' h'=>JA fuel _ a' w' h'.2) (h.2 i hi)⟩
theorem B6.set {i:Nat} {l:Array Bool} {w:World} (hne:∀p∈Gs,p.1≠i):B6 Gs (l.setIfInBounds i true) w↔B6 Gs l w:=by
 unfold B6;constructor
 ·intro h p hp hl;exact h p hp (by rw[getD_set_ne false (Ne.symm (hne p hp))];exact hl)
 intro h p hp hl;exact h p hp (by rw[getD_set_ne false (Ne.symm (hne p hp))]at hl;exact hl)
theorem Ce {i:Nat} {oi:Oper} {v:Value} (hi:ops[i]? =some oi) (hsel:∀(j:Nat) (o:Oper) cs b,ops[j]? =some o→o.op≠.select cs b)
  (hQ:∀c a w,Q (.panic c) (a.put oi.dst v) w→Q (.panic c) a w) (hne:∀p∈Gs,p.1≠i):
  ∀(fuel:Nat) (listed:Array Bool) (a:Act) (w:World),Ae md ops listed→
   (∀j oj,ops[j]? =some oj→j≠i→listed.getD j true=false→(∀e∈oj.after,Region.binds md e=true→e.on≠i)→oi.apart ops oj=true)→
   i∈Region.ready md ops listed→YieldsIf P ops (Rq md ops Gs i) oi v a→B6 Gs listed w→
   BA P md ops Q Gs fuel (listed.setIfInBounds i true) (a.put oi.dst v) w→BA P md ops Q Gs (fuel+1) listed a w:=by
 intro fuel
 induction fuel with
 |zero=>
  intro listed a w hcl _ hr hy hS H;refine⟨fun h=>(by rw[h]at hr;cases hr),fun j hj=>?_⟩;by_cases hji:j=i
  ·subst hji;exact hy.wpOp hi ⟨listed,hcl,(mem_ready.1 hr).1,hS⟩ ⟨(B6.set hne).2 hS,H⟩
  have:=ready_mono hj hji;rw[H.1]at this;cases this
 |succ fuel ih=>
  intro listed a w hcl hfree hr hy hS H;refine⟨fun h=>(by rw[h]at hr;cases hr),fun j hj=>?_⟩;by_cases hji:j=i
  ·subst hji;exact hy.wpOp hi ⟨listed,hcl,(mem_ready.1 hr).1,hS⟩ ⟨(B6.set hne).2 hS,H⟩
  have h1:=H.2 j (ready_mono hj hji);obtain⟨hjun,oj,hoj,hall⟩:=mem_ready.1 hj;have hnot:∀e∈oj.after,Region.binds md e=true→e.on≠i:=fun e he hb heq=>by
   have h1:=hall e he hb;rw[heq,getD_both (mem_ready.1 hr).1]at h1;cases h1
  have h2:=wpOp_putIf hoj (hfree j oj hoj hji hjun hnot) (fun cs b=>hsel i oi cs b hi) (fun cs b=>hsel j oj cs b hoj) hQ hy h1;have hfree':∀k ok,ops[k]? =some ok→k≠i→(listed.setIfInBounds j true).getD k true=false→
    (∀e∈ok.after,Region.binds md e=true→e.on≠i)→oi.apart ops ok=true:=fun k ok hk hki hun hno=>by
   refine hfree k ok hk hki ?_ hno;by_cases hjk:j=k
   ·subst hjk;exact hjun
   rw[getD_set_ne true hjk]at hun;exact hun
  refine wpOp_mono (fun a' w' h3=>?_) h2;obtain⟨h4,h5,h6⟩:=h3;rw[Array.setIfInBounds_comm _ _ (Ne.symm hji)]at h5 h6;have h7:=(B6.set hne).1 h5;exact⟨h7,ih (listed.setIfInBounds j true) a' w' (hcl.set hj) hfree' (ready_mono hr (Ne.symm hji)) h4 h7 h6⟩
theorem Dy {i:Nat} (h:(Gs.map (·.1)).contains i=false):∀p∈Gs,p.1≠i:=fun p hp e=>by
 have:(Gs.map (·.1)).contains i=true:=by
  rw[List.contains_iff_mem];exact List.mem_map.2 ⟨p,hp,e⟩
 rw[h]at this;cases this
theorem AV {i:Nat} {oi:Oper} {v:Value} {fuel:Nat} {listed:Array Bool} {a:Act} {w:World} (hi:ops[i]? =some oi)
  (hs:Region.noSelect ops=true) (hf:Region.free md ops listed i=true) (hr:(Region.ready md ops listed).contains i=true) (hcl:Ae md ops listed) (hK:B6 Gs listed w) (hne':(Gs.map (·.1)).contains i=false)
  (hQ:∀c a w,Q (.panic c) (a.put oi.dst v) w→Q (.panic c) a w) (hgd:oi.guard=none) (hy:∀w,(execOp a.eval oi).run P w= .ok (.value v) w)
  (h:Ae md ops (listed.setIfInBounds i true)→B6 Gs (listed.setIfInBounds i true) w→BA P md ops Q Gs fuel (listed.setIfInBounds i true) (a.put oi.dst v) w):BA P md ops Q Gs (fuel+1) listed a w:=by
 have hr':i∈Region.ready md ops listed:=by simpa using hr
 have hne:=Dy hne';exact Ce hi (Region.noSelect_spec hs) hQ hne fuel listed a w hcl (Region.free_spec hi hf) hr' (.inl ⟨by simp[Region.wanted,hgd],fun w _=>hy w⟩) hK (h (hcl.set hr') ((B6.set hne).2 hK))
theorem DQ (s:Nat) (A:World→Prop) {i:Nat} {oi:Oper} {v:Value} {fuel:Nat} {listed:Array Bool} {a:Act} {w:World} (hi:ops[i]? =some oi)
  (hs:Region.noSelect ops=true) (hf:Region.free md ops listed i=true) (hr:(Region.ready md ops listed).contains i=true) (hcl:Ae md ops listed) (hK:B6 Gs listed w) (hne':(Gs.map (·.1)).contains i=false)
  (k:Nat) (hm':Gs[k]? =some (s,A)) (hw:Region.waitsFor md ops s i=true)
  (hQ:∀c a w,Q (.panic c) (a.put oi.dst v) w→Q (.panic c) a w) (hgd:oi.guard=none) (hy:∀w,A w→(execOp a.eval oi).run P w= .ok (.value v) w)
  (h:Ae md ops (listed.setIfInBounds i true)→B6 Gs (listed.setIfInBounds i true) w→BA P md ops Q Gs fuel (listed.setIfInBounds i true) (a.put oi.dst v) w):BA P md ops Q Gs (fuel+1) listed a w:=by
 have hr':i∈Region.ready md ops listed:=by simpa using hr
 have hne:=Dy hne';exact Ce hi (Region.noSelect_spec hs) hQ hne fuel listed a w hcl (Region.free_spec hi hf) hr' (.inl ⟨by simp[Region.wanted,hgd],fun w ⟨l,h1,h2,h3⟩=>hy w (h3 _ (VJ hm') (h1.before h2 hw))⟩) hK (h (hcl.set hr') ((B6.set hne).2 hK))
theorem BK (mid:List Nat) (s:Nat) (A:World→Prop) {i:Nat} {oi:Oper} {v:Value} {fuel:Nat} {listed:Array Bool} {a:Act} {w:World} (hi:ops[i]? =some oi)
  (hs:Region.noSelect ops=true) (hf:Region.free md ops listed i=true) (hr:(Region.ready md ops listed).contains i=true) (hcl:Ae md ops listed) (hK:B6 Gs listed w) (hne':(Gs.map (·.1)).contains i=false)
  (k:Nat) (hm':Gs[k]? =some (s,A)) (hw:JI md ops (s::(mid++[i]))=true)
  (hQ:∀c a w,Q (.panic c) (a.put oi.dst v) w→Q (.panic c) a w) (hgd:oi.guard=none) (hy:∀w,A w→(execOp a.eval oi).run P w= .ok (.value v) w)
  (h:Ae md ops (listed.setIfInBounds i true)→B6 Gs (listed.setIfInBounds i true) w→BA P md ops Q Gs fuel (listed.setIfInBounds i true) (a.put oi.dst v) w):BA P md ops Q Gs (fuel+1) listed a w:=by
 have hr':i∈Region.ready md ops listed:=by simpa using hr
 have hne:=Dy hne';exact Ce hi (Region.noSelect_spec hs) hQ hne fuel listed a w hcl (Region.free_spec hi hf) hr' (.inl ⟨by simp[Region.wanted,hgd],fun w ⟨l,h1,h2,h3⟩=>hy w (h3 _ (VJ hm') (h1.path (getD_both h2) mid s hw))⟩) hK (h (hcl.set hr') ((B6.set hne).2 hK))
theorem Bg (s:Nat) (A:World→Prop) {i:Nat} {oi:Oper} {fuel:Nat} {listed:Array Bool} {a:Act} {w:World} (hi:ops[i]? =some oi)
  (hs:Region.noSelect ops=true) (hf:Region.free md ops listed i=true) (hr:(Region.ready md ops listed).contains i=true) (hcl:Ae md ops listed) (hK:B6 Gs listed w) (hne':(Gs.map (·.1)).contains i=false)
  (k:Nat) (hm':Gs[k]? =some (s,A)) (hw:Region.waitsFor md ops s i=true) (ty:TypeId) (x:Operand) (ho:oi.op= .load ty x) (b o:Nat) (hx:a.eval x= .pointer (some ⟨b,o,none⟩)) (cs:List Value) (d:TypeDesc) (hS:∀w,A w→w.rangeAt b o cs)
  (hu:P.underlying ty=some d) (hd:d.isRow=true) (hin:(P.info? ty).map (·.size)=some cs.length)
  (hQ:∀c a w,Q (.panic c) (a.put oi.dst (.agg cs.toArray)) w→Q (.panic c) a w) (hgd:oi.guard=none)
  (h:Ae md ops (listed.setIfInBounds i true)→B6 Gs (listed.setIfInBounds i true) w→BA P md ops Q Gs fuel (listed.setIfInBounds i true) (a.put oi.dst (.agg cs.toArray)) w):BA P md ops Q Gs (fuel+1) listed a w:=
 DQ s A hi hs hf hr hcl hK hne' k hm' hw hQ hgd (fun w' hA=>by
  unfold execOp;simp only[ho,hx,Instr.loadAt,Instr.sureAddr,Sem.run_bind,Sem.run_pure,Result.andThen_ok,run_loadVar_mid w' b o ty cs d (hS w' hA) hu hd hin]) h
theorem BF {i:Nat} {oi:Oper} {fuel:Nat} {listed:Array Bool} {a:Act} {w:World} (hcl:Ae md ops listed) (hr:Region.ready md ops listed=[i]) (hi:ops[i]? =some oi) (hgd:oi.guard=none)
  (h:∀K:Act→World→Prop,(∀a' w',B6 Gs (listed.setIfInBounds i true) w'→(Ae md ops (listed.setIfInBounds i true)→B6 Gs (listed.setIfInBounds i true) w'→BA P md ops Q Gs fuel (listed.setIfInBounds i true) a' w')→K a' w')→oi.wp P a w K Q):BA P md ops Q Gs (fuel+1) listed a w:=by
 refine⟨(fun h0=>by rw[hr]at h0;cases h0),fun j hj=>?_⟩;have hj':=hj;rw[hr]at hj;have:j=i:=by simpa using hj
 subst this;unfold wpOp;simp only[hi,Region.wanted,hgd,if_true];exact .inl (h _ fun a' w' h1 h2=>⟨h1,h2 (hcl.set hj') h1⟩)
theorem Aw {s1:Nat} {A:World→Prop} {l:Array Bool} {w:World} (h1:l.getD s1 false=true∨A w):B6 [(s1,A)] l w:=by
 intro p hp hl;obtain rfl:=VF.1 hp;rcases h1 with h|h
 ·rw[h]at hl;cases hl
 exact h
theorem G5 {s1 s2:Nat} {A B:World→Prop} {l:Array Bool} {w:World} (h1:l.getD s1 false=true∨A w) (h2:l.getD s2 false=true∨B w):B6 [(s1,A),(s2,B)] l w:=by
 intro p hp hl;rcases List.mem_cons.1 hp with rfl|hp
 ·rcases h1 with h|h
  ·rw[h]at hl;cases hl
  exact h
 obtain rfl:=VF.1 hp;rcases h2 with h|h
 ·rw[h]at hl;cases hl
 exact h
theorem Ca {listed:Array Bool} {a:Act} {w:World} (hr:Region.ready md ops listed=[]) (h:Q .normal a w):∀fuel,BA P md ops Q Gs fuel listed a w
 |0=>⟨hr,h⟩
 |_+1=>⟨fun _=>h,by rw[hr];simp⟩
theorem C6 (Gs:List (Nat×(World→Prop))) {id:Nat} {a:Act} {w:World} (hm:P.follows .mixedOrders=true) (hK:∀p∈Gs,p.2 w.drew)
  (h:Ae .any ops (Array.replicate ops.size false)→B6 Gs (Array.replicate ops.size false) w.drew→BA P .any ops Q Gs ops.size (Array.replicate ops.size false) a w.drew):(Code.region id ops true).wp P Q a w:=
 wp_region_any hm (JA _ _ _ _ (h (Ae.start _) (fun p hp _=>hK p hp)))
end
section
variable {P:Program} {ops:Array Oper} {Q:Exit→Act→World→Prop} {md:Region.Mode} {Gs:List (Nat×(World→Prop))}
variable {f:FuncId} {args:Array Value}
end
end Go.Proofs.YthpflelgbadkcaaGreatDoor
namespace Go.Proofs.YthpflelgbadkcaaGreatDoor
open Go.RowKit Pl
def Nc (ls:List ByteArray) (s:ByteArray):Int:=match ls.findIdx? fun a=>a.toList==s.toList with
 |some j=>(j:Nat)
 |none=> -1
theorem Ri {ls:List ByteArray} {s a:ByteArray} {j:Nat} (h:ls[j]? =some a) (he:(a.toList==s.toList)=true) (hn:∀(i:Nat) (a:ByteArray),i<j→ls[i]? =some a→(a.toList==s.toList)=false):Nc ls s=(j:Nat):=by
 have hj:=(VG.1 h).1;have:ls.findIdx? (fun a=>a.toList==s.toList)=some j:=by
  rw[List.findIdx?_eq_some_iff_getElem];refine⟨hj,?_,fun i hi=>?_⟩
  ·rw[(VG.1 h).2];exact he
  rw[hn i _ hi (VB (by omega))];simp
 unfold Nc;rw[this]
theorem PR {ls:List ByteArray} {s:ByteArray} (hn:∀(i:Nat) (a:ByteArray),ls[i]? =some a→(a.toList==s.toList)=false):Nc ls s= -1:=by
 have:ls.findIdx? (fun a=>a.toList==s.toList)=none:=by
  rw[List.findIdx?_eq_none_iff];intro a ha;obtain⟨i,hi⟩:=List.getElem?_of_mem ha;exact hn i a hi
 unfold Nc;rw[this]
theorem LS (v:Value) (ls:List ByteArray) (s:ByteArray) (w:World) (h:Cg w w.heap.size 1 v (ls.map fun s=>[Value.string s])) (hl:ls.length≤1000000):Calls Tryz.prog 122 #[v,.string s] w (fun e w'=>e= .returned (.int .i64 (Nc ls s))∧w'=w):=by
 obtain⟨A,c,rfl,hc,hx⟩:=h;rw[List.length_map]at hc hx ⊢;obtain⟨n,hn⟩:∃n,ls.length=n:=⟨_,rfl⟩;rw[hn]at hc hx hl ⊢;have HN:=V3 hn;have HX:=V3 hx;clear hn hx;go_enter Tryz.func122,Tryz.ntmps122;go_wp2_with fail;go_loopw [5,8] (fun _ i wr=>∃(j:Nat),j≤n∧(i= .int .i64 (j:Nat)∧w=wr)∧∀(i:Nat) (a:ByteArray),i<j→ls[i]? =some a→(a.toList==s.toList)=false) (fun _ i _=>n-(intOf i).toNat)
 case atStart=>exact⟨0,by omega,⟨rfl,rfl⟩,fun i a h _=>by omega⟩
 case round=>
  obtain⟨j,hj,⟨rfl,rfl⟩,hinv⟩:=hrel;have HI:=V3 hinv;clear hinv;by_cases hlt:j<n
  ·obtain⟨b,o,rfl,hb,hcell⟩:=HX.out (by omega);obtain⟨a,ha⟩:∃a,ls[j]? =some a:=⟨_,VB (by rw[HN.out];exact hlt)⟩;have hcl:w.cell? ⟨b,o+j,none⟩=some (.string a):=by
    have:=hcell j [.string a] (by rw[List.getElem?_map,ha];rfl) 0 _ rfl;rw[Nat.mul_one]at this;exact this
   have HA:=V3 ha;clear ha hcell;by_cases he:a.toList=s.toList
   ·have t1:(a.toList==s.toList)=true:=by rw[VC];exact he
    have t2:(s.toList==a.toList)=true:=by rw[VC];exact he.symm
    have HF:=V3 (Ri HA.out t1 HI.out);clear he;go_wp2_with fail;go_ret;exact⟨by rw[HF.out];rfl,rfl⟩
   have t1:(a.toList==s.toList)=false:=by rw[V4];exact he
   have t2:(s.toList==a.toList)=false:=by rw[V4];exact fun h=>he h.symm
   have HC:=V3 (show ∀(i:Nat) (a:ByteArray),i<j+1→ls[i]? =some a→(a.toList==s.toList)=false from fun i a' hi ha'=>by
    by_cases hij:i=j
    ·subst hij;rw[HA.out]at ha';obtain rfl:=VE ha';exact t1
    exact HI.out i a' (by omega) ha')
   clear he;go_wp2_with fail;go_roundw
   case rel=>exact⟨j+1,by omega,⟨by go_num,by simp⟩,HC.out⟩
   case measure=>simp[intOf];omega
  have HF:=V3 (PR (ls:=ls) (s:=s) fun i a h=>HI.out i a (by have:=(VG.1 h).1;have:=HN.out;omega) h);obtain rfl:j=n:=by omega
  go_wp2_with fail;go_ret;exact⟨by rw[HF.out];rfl,rfl⟩
def L6 (w:World):Prop:=5<w.heap.size∧∀j s,PQ[j]? =some s→w.cell? ⟨5,j,none⟩=some (.string s)
theorem L6.keep {S:Nat→Prop} {w w':World} (h:L6 w) (g:AA S w w') (hs:¬S 5):L6 w':=⟨VA h.1 g.size,fun j s hj=>(World.cell?_of_block (a:=⟨5,j,none⟩) (g.block _ h.1 hs)).trans (h.2 j s hj)⟩
theorem L6.rd {w:World} (h:L6 w):Cg w w.heap.size 1 (.slice (some ⟨5,0,none⟩) 8 8) (PQ.map fun s=>[Value.string s]):=by
 refine⟨_,8,rfl,by decide,fun _=>⟨_,0,rfl,h.1,fun j cs hj k u hk=>?_⟩⟩;rw[Nat.zero_add,Nat.mul_one];rw[List.getElem?_map]at hj;obtain⟨x,hx,rfl⟩:=Option.map_eq_some_iff.1 hj;obtain⟨rfl,rfl⟩:k=0∧Value.string x=u:=by
  cases k with
  |zero=>exact⟨rfl,by simpa using hk⟩
  |succ k=>simp at hk
 exact h.2 j x hx
def Tq:List ByteArray:=[⟨#[61]⟩,⟨#[33,61]⟩,⟨#[94,61]⟩]
def Hd (f:Nat):ByteArray:=Tq[f]?.getD ⟨#[]⟩
def PK (w:World):Prop:=4<w.heap.size∧∀j s,Tq[j]? =some s→w.cell? ⟨4,j,none⟩=some (.string s)
def EB (w:World):Prop:=1<w.heap.size∧(∀j s,UV[j]? =some s→w.cell? ⟨1,j,none⟩=some (.string s))∧PK w
theorem PK.keep {S:Nat→Prop} {w w':World} (h:PK w) (g:AA S w w') (hs:¬S 4):PK w':=⟨VA h.1 g.size,fun j s hj=>(World.cell?_of_block (a:=⟨4,j,none⟩) (g.block _ h.1 hs)).trans (h.2 j s hj)⟩
theorem EB.keep {S:Nat→Prop} {w w':World} (h:EB w) (g:AA S w w') (hs:¬S 1) (hs2:¬S 4:=by first|exact(fun h=>h)|omega):EB w':=⟨VA h.1 g.size,fun j s hj=>(World.cell?_of_block (a:=⟨1,j,none⟩) (g.block _ h.1 hs)).trans (h.2.1 j s hj),h.2.2.keep g hs2⟩
def Gv (f wd:Int) (name:ByteArray):List Value:=[.int .i64 1,.int .i64 f,.int .i64 wd,.int .i64 0,.int .i64 0,.int .i64 0,.int .i64 0,.string name,.slice none 0 0,.slice none 0 0,.slice none 0 0]
theorem QP (w:World) (g z:Nat) (n:Int) (name:ByteArray) (ts us:List C7) (f wd:Nat) (h:DB w g n ts) (hz:AR w z 29 (Gv 0 0 name).toArray) (hgz:g<z) (hft:L6 w) (hfz:5<g) (hf:Oy ts=some (f,wd,us)):
  Calls Tryz.prog 167 #[.pointer (some ⟨g,0,none⟩),.pointer (some ⟨z,0,none⟩)] w fun e w'=>e= .returned (.tuple #[])∧DB w' g n us∧AR w' z 29 (Gv (f:Nat) (wd:Nat) name).toArray∧AA (fun i=>i=g∨i=z) w w':=by
 rcases ts with _|⟨⟨tk,tt,tn,tf⟩,ts⟩
 ·cases hf
 simp only[Oy]at hf;by_cases hk0:tk=0
 ·subst hk0;rw[VN rfl]at hf;cases hx:PQ.findIdx? (fun a=>a.toList==tt.toList)with
  |none=>rw[hx]at hf;cases hf
  |some q=>
   rw[hx]at hf;dsimp only at hf;have hq:Nc PQ tt=(q:Nat):=by unfold Nc;rw[hx]
   have hq8:q<8:=by
    have:=(List.findIdx?_eq_some_iff_getElem.1 hx).1;exact this
   have HK:=V3 (show ∀w',DB w' g n (⟨0,tt,tn,tf⟩::ts)→Calls Tryz.prog 156 #[.pointer (some ⟨g,0,none⟩),.int .i64 0] w' (fun e w''=>e= .returned (.bool true)∧w''=w')from fun w' h=>G0 w' g n (⟨0,tt,tn,tf⟩::ts) 0 h);have HI:=V3 (show ∀w',L6 w'→Calls Tryz.prog 122 #[.slice (some ⟨5,0,none⟩) 8 8,.string tt] w' (fun e w''=>e= .returned (.int .i64 (q:Nat))∧w''=w')from fun w' h=>by have h1:=LS _ PQ tt w' h.rd (by decide);rwa[hq]at h1);obtain⟨A,m,c,hb,hr,hl⟩:=id h;obtain⟨b,o,rfl, -, -,k0,k1, -⟩:=JB hr;rw[List.length_cons]at hl;obtain⟨m',hm'⟩:∃m',ts.length=m':=⟨_,rfl⟩;rw[hm']at hl;subst hl;have c0:w.cell? ⟨g,0,none⟩=some (.slice (some ⟨b,o,none⟩) (m'+1) c):=hb.cell 0;have k0:w.cell? ⟨b,o,none⟩=some (.int .i64 0):=k0;have k1:w.cell? ⟨b,o+1,none⟩=some (.string tt):=k1;have f1:w.frozen? ⟨z,1,none⟩=false:=hz.frozen 1;have z1:w.cell? ⟨z,1,none⟩=some (.int .i64 0):=hz.cell 1;have HP:=V3 h;have HZ:=V3 hz;have HF:=V3 hft;have HFF:=V3 hf;clear h hz hft hf hx hq hb hr hm';go_enter Tryz.func167,Tryz.ntmps167;go_upto_region 1 with(go_at_call 156;(with_reducible refine(HK.out _ HP.out).mono ?_);rintro e3 w3 ⟨rfl,rfl⟩);refine wp_region_still_tail 12 (by kernel_rfl) (by kernel_rfl) ?_;simp only[List.take_succ_cons,List.take_zero,List.drop_succ_cons,List.drop_zero]
   repeat still_step
   still_call (HI.out w3.drew (HF.out.keep (VX (VY (fun _=>False) w3)) (fun h=>h)))
   repeat still_step
   refine wpStill_nil ?_;change wpList _ _ _ _ _ w3.drew;go_upto_region 2 with fail;have hb4:AR (w3.setCell ⟨z,1,none⟩ (.int .i64 (q:Nat))).drew z 29 (Gv (q:Nat) 0 name).toArray:=(HZ.out.set_ 1 _:AR _ _ _ _).drew;have k4:AA (fun i=>i=z) w3 (w3.setCell ⟨z,1,none⟩ (.int .i64 (q:Nat))).drew:=VX (VZ (S:=fun i=>i=z) (p:=⟨z,1,none⟩) (VY _ w3) (.inl rfl) _);generalize (w3.setCell ⟨z,1,none⟩ (.int .i64 (q:Nat))).drew=w4 at*;have hp4:=HP.out.keep k4 (fun i hi e=>by omega);have z1':w4.cell? ⟨z,1,none⟩=some (.int .i64 (q:Nat)):=hb4.cell 1;have HP4:=V3 hp4;have HB4:=V3 hb4;have HK4:=V3 k4;have HT:=V3 (Ee w4 g n ⟨0,tt,tn,tf⟩ ts hp4);clear hb4 k4 hp4 c0 k0 k1 f1;have tq:decide ((q:Int)<0)=false:=by rw[decide_eq_false_iff_not];omega
   by_cases hq0:q=0
   ·subst hq0;have hff:=HFF.out;rw[VN rfl]at hff;simp only[VQ,VP]at hff;obtain⟨rfl,rfl,rfl⟩:=hff;go_wp2_with(first|(go_at_call 156;(with_reducible refine(HK.out _ HP4.out).mono ?_);rintro e3 w3' ⟨rfl,rfl⟩)|(go_at_call 155;(with_reducible refine HT.out.mono ?_);rintro e3 w5 ⟨rfl,hp5,hk5⟩;have hb5:=HB4.out.keep hk5 (by omega);have z5:w5.cell? ⟨z,1,none⟩=some (.int .i64 0):=hb5.cell 1;have HR5:=V3 (V5 hp5 (V5 hk5 hb5));clear hp5 hk5 hb5));refine bodyPost_ret (results_none rfl _ _ _) rfl ?_;exact⟨rfl,HR5.out.1,HR5.out.2.2,VV (AA.mono HK4.out fun _ _ e=> .inr e) HR5.out.2.1 fun _ _ e=> .inl e⟩
   have hff:=HFF.out;rw[VM hq0]at hff;have tq0:((q:Int)==0)=false:=by rw[V4];omega
   by_cases hq7:q=7
   ·rw[VN hq7]at hff;cases hff
   rw[VM hq7]at hff;have tq7:((q:Int)==7)=false:=by rw[V4];omega
   by_cases hs1:FW ts 3 ⟨#[40]⟩=true
   ·rw[VN hs1]at hff;obtain⟨ta,tb,rfl⟩:=Dk hs1;rw[List.tail_cons]at hff;rcases tb with _|⟨⟨tck,tct,tcn,tcf⟩,td⟩
    ·cases hff
    dsimp only at hff;by_cases hcond:tck=1∧1≤tcn∧tcn≤4096∧FW td 3 ⟨#[41]⟩=true
    ·rw[VN hcond]at hff;simp only[VQ,VP]at hff;obtain⟨rfl,rfl,hus⟩:=hff;obtain⟨hc1,hc2,hc3,hc4⟩:=hcond;obtain⟨te,tg,rfl⟩:=Dk hc4;obtain rfl:tg=us:=hus;have HS1:=V3 (fun w' h=>J8 w' g n ta (⟨tck,tct,tcn,tcf⟩::te::tg) ⟨#[40]⟩ h hs1);have HN:=V3 (show ∀w',DB w' g n (⟨tck,tct,tcn,tcf⟩::te::tg)→Calls Tryz.prog 164 #[.pointer (some ⟨g,0,none⟩),.int .i64 1,.int .i64 4096] w' (fun e w''=>e= .returned (.int .i64 (tcn:Nat))∧DB w'' g n (te::tg)∧E7 g w' w'')from fun w' h=>Qm w' g n ⟨tck,tct,tcn,tcf⟩ (te::tg) 1 4096 h hc1 (by show(1:Int)≤(tcn:Int);omega) (by show(tcn:Int)≤4096;omega));have HS2:=V3 (fun w' h=>J8 w' g n te tg ⟨#[41]⟩ h hc4);clear hc1 hc2 hc3 hc4 hs1 hq0 hq7 HFF;go_upto_region 8 with(first|(go_at_call 156;(with_reducible refine(HK.out _ HP4.out).mono ?_);rintro e3 w3' ⟨rfl,rfl⟩)|(go_at_call 155;(with_reducible refine HT.out.mono ?_);rintro e3 w5 ⟨rfl,hp5,hk5⟩;have hb5:=HB4.out.keep hk5 (by omega);have z5:w5.cell? ⟨z,1,none⟩=some (.int .i64 (q:Nat)):=hb5.cell 1;have HR5:=V3 (V5 hp5 (V5 hk5 hb5));clear hp5 hk5 hb5)|(go_at_call 157;(with_reducible refine(HS1.out _ HR5.out.1).mono ?_);rintro e3 w6 ⟨rfl,hp6,hk6⟩;have HR6:=V3 (V5 hp6 (V5 hk6 (HR5.out.2.2.keep hk6 (by omega))));clear hp6 hk6)|(go_at_call 164;(with_reducible refine(HN.out _ HR6.out.1).mono ?_);rintro e3 w7 ⟨rfl,hp7,hk7⟩;have hb7:=HR6.out.2.2.keep hk7 (by omega);have z7:w7.cell? ⟨z,2,none⟩=some (.int .i64 0):=hb7.cell 2;have f7:w7.frozen? ⟨z,2,none⟩=false:=hb7.frozen 2;have HR7:=V3 (V5 hp7 (V5 hk7 hb7));clear hp7 hk7 hb7));have hb8:AR (w7.setCell ⟨z,2,none⟩ (.int .i64 (tcn:Nat))) z 29 (Gv (q:Nat) (tcn:Nat) name).toArray:=HR7.out.2.2.set_ 2 _;have k8:AA (fun i=>i=z) w7 (w7.setCell ⟨z,2,none⟩ (.int .i64 (tcn:Nat))):=VZ (S:=fun i=>i=z) (p:=⟨z,2,none⟩) (VY _ w7) (.inl rfl) _;generalize w7.setCell ⟨z,2,none⟩ (.int .i64 (tcn:Nat))=w8 at*;have hp8:=HR7.out.1.keep k8 (fun i hi e=>by omega);have z8:w8.cell? ⟨z,1,none⟩=some (.int .i64 (q:Nat)):=hb8.cell 1;have HR8:=V3 (V5 hp8 (V5 k8 hb8));clear hp8 k8 hb8;go_wp2_with(go_at_call 157;(with_reducible refine(HS2.out _ HR8.out.1).mono ?_);rintro e3 w9 ⟨rfl,hp9,hk9⟩);go_end0;have kA:AA (fun i=>i=g∨i=z) w3 w7:=VV (VV (VV (AA.mono HK4.out fun _ _ e=> .inr e) HR5.out.2.1 fun _ _ e=> .inl e) HR6.out.2.1 fun _ _ e=> .inl e) HR7.out.2.1 fun _ _ e=> .inl e
     exact⟨rfl,hp9,HR8.out.2.2.keep hk9 (by omega),VV (VV kA HR8.out.2.1 fun _ _ e=> .inr e) hk9 fun _ _ e=> .inl e⟩
    rw[VM hcond]at hff;cases hff
   rw[VM hs1]at hff;cases hff
 rw[VM hk0]at hf;cases hf
theorem Fz (f wd:Int) (name:ByteArray):∀v∈Gv f wd name,v.oneCell'=true:=by
 intro v hv;simp[Gv]at hv;rcases hv with rfl|rfl|rfl|rfl|rfl|rfl|rfl|rfl|rfl|rfl|rfl<;>rfl
def Rw (g:Nat) (n:Int) (us:List C7) (f wd:Nat) (name:ByteArray) (w:World) (e:Ending) (w':World):Prop:=e= .returned (.agg (Gv (f:Nat) (wd:Nat) name).toArray)∧DB w' g n us∧E7 g w w'
theorem RS (w:World) (g:Nat) (n:Int) (name:ByteArray) (ts us:List C7) (f wd:Nat) (h:DB w g n ts) (hft:L6 w) (hfz:5<g) (hsel:N0 name ts=some (IK (f:Nat) (wd:Nat) name,us)):
  Calls Tryz.prog 159 #[.pointer (some ⟨g,0,none⟩),.string name] w (Rw g n us f wd name w):=by
 have hg:=h.lt;have hb0:=VW w 29 (AJ 0 0).toArray;have hg0:=(VU w).alloc (.cells (AJ 0 0).toArray 29);have hs0:(w.alloc (.cells (AJ 0 0).toArray 29)).heap.size=w.heap.size+1:=by simp
 have hp0:=h.grew hg0;have hf0:=hft.keep hg0 (fun h=>h);have HS:=V3 (V5 hs0 hg);have HG:=V3 hg0;have HSel:=V3 hsel;clear hsel hft h hs0 hg0;go_enter Tryz.func159,Tryz.ntmps159;go_upto_region 1 with fail;change Code.wp _ _ _ _ (w.alloc (.cells (AJ 0 0).toArray 29));generalize w.alloc (.cells (AJ 0 0).toArray 29)=w1 at*;have HP0:=V3 hp0;have HF0:=V3 hf0;have HB0:=V3 hb0;clear hp0 hf0 hb0;go_upto_region 2 with(((with_reducible refine AG 29 (.tmp 5) (.tmp 7) rfl ?_);refine BL 29 (.tmp 5) (.tmp 7) w1.heap.size (Gv 0 0 name) (AJ 0 0) 29 AE rfl (Fz _ _ _) rfl rfl rfl rfl (VW w1 29 _) ?_;intro w2 hb2 k2 d2;have HG2:=V3 (show A4 w1 w2 from VV ((VU w1).alloc _) k2 (fun i hi e=>by omega));clear k2 d2));have HP2:=V3 (HP0.out.grew HG2.out);have HF2:=V3 (HF0.out.keep HG2.out (fun h=>h));have HB2:=V3 (V5 hb2 (HB0.out.grew HG2.out));have hsel:=HSel.out;unfold N0 at hsel;by_cases h1:FW ts 3 ⟨#[123]⟩=true
 ·rw[VN h1]at hsel;cases hsel
 rw[VM h1]at hsel;have HN1:=V3 (F3 w2 g n ts ⟨#[123]⟩ HP2.out (by simpa using h1));by_cases h2:FW ts 3 ⟨#[46]⟩=true
 ·rw[VN h2]at hsel;obtain⟨t,tb,rfl⟩:=Dk h2;rw[List.tail_cons]at hsel;cases hfp:Oy tb with
  |none=>rw[hfp]at hsel;cases hsel
  |some p=>
   obtain⟨f',wd',us'⟩:=p;rw[hfp]at hsel;dsimp only at hsel;by_cases h3:FW us' 3 ⟨#[64]⟩=true
   ·rw[VN h3]at hsel;cases hsel
   rw[VM h3]at hsel;simp only[VQ,VP,IK,Ex.mk.injEq,true_and,and_true]at hsel;obtain⟨⟨hf,hwd⟩,rfl⟩:=hsel;obtain rfl:f'=f:=by omega
   obtain rfl:wd'=wd:=by omega
   have HY:=V3 (Eu w2 g n t tb ⟨#[46]⟩ HP2.out h2);have HFn:=V3 (fun w' (h:DB w' g n tb) hz hft=>QP w' g w1.heap.size n name tb us' f' wd' h hz (by have:=HS.out;omega) hft hfz hfp);have HN3:=V3 (fun w' h=>F3 w' g n us' ⟨#[64]⟩ h (by simpa using h3));clear h1 h2 h3 hfp hf hwd HSel;go_upto_region 7 with(go_at_call 144;(with_reducible refine HN1.out.mono ?_);rintro e3 w3 ⟨rfl,rfl⟩);clear HN1;go_upto_region 8 with(go_at_call 144;(with_reducible refine HY.out.mono ?_);rintro e3 w4 ⟨rfl,hp4,hk4⟩;have HR4:=V3 (V5 hp4 (V5 hk4 (HB2.out.1.keep hk4 (by have:=HS.out;omega))));clear hp4 hk4);clear HY;go_upto_region 9 with(go_at_call 167;(with_reducible refine(HFn.out _ HR4.out.1 HR4.out.2.2 (HF2.out.keep HR4.out.2.1 (by omega))).mono ?_);rintro e3 w5 ⟨rfl,hp5,hb5,hk5⟩;have HR5:=V3 (V5 hp5 (V5 hk5 ((HB2.out.2.keep HR4.out.2.1 (by have:=HS.out;omega)).keep hk5 (by have:=HS.out;omega))));clear hp5 hk5);clear HFn;go_upto_region 11 with(go_at_call 144;(with_reducible refine(HN3.out _ HR5.out.1).mono ?_);rintro e3 w3 ⟨rfl,rfl⟩);clear HN3;have hr0:=HR5.out.2.2;go_wp2_with(first|((with_reducible refine AF 29 (.tmp 5) rfl ?_);refine BZ 29 Tryz.underlying29 rfl (.tmp 5) w1.heap.size (Gv (f':Nat) (wd':Nat) name) 29 AE rfl rfl rfl hb5 ?_)|((with_reducible refine AG 29 (.tmp 4) (.tmp 45) rfl ?_);refine BL 29 (.tmp 4) (.tmp 45) w.heap.size (Gv (f':Nat) (wd':Nat) name) (AJ 0 0) 29 AE rfl (Fz _ _ _) rfl rfl rfl rfl hr0 ?_;intro w8 hb8 k8 d8));refine bodyPost_ret (AO rfl rfl AE Tryz.underlying29 rfl hb8) rfl ?_;have hS:=HS.out;have k2:=Vb (S:=fun i=>i=g) (HG.out.trans HG2.out);exact⟨rfl,HR5.out.1.keep k8 (fun i hi e=>by omega),VV (VV (VV k2 HR4.out.2.1 fun _ _ e=>e) HR5.out.2.1 fun i hi e=>by omega) k8 fun i hi e=>by omega⟩
 rw[VM h2]at hsel;by_cases h3:FW ts 3 ⟨#[64]⟩=true
 ·rw[VN h3]at hsel;cases hsel
 rw[VM h3]at hsel;simp only[VQ,VP,IK,Ex.mk.injEq,true_and,and_true]at hsel;obtain⟨⟨hf,hwd⟩,rfl⟩:=hsel;obtain rfl:f=0:=by omega
 obtain rfl:wd=0:=by omega
 have HN2:=V3 (F3 w2 g n ts ⟨#[46]⟩ HP2.out (by simpa using h2));have HN3:=V3 (F3 w2 g n ts ⟨#[64]⟩ HP2.out (by simpa using h3));clear h1 h2 h3 hf hwd HSel;have hb5:=HB2.out.1;have hr0:=HB2.out.2;go_upto_region 7 with(go_at_call 144;(with_reducible refine HN1.out.mono ?_);rintro e3 w3 ⟨rfl,rfl⟩);go_upto_region 9 with(go_at_call 144;(with_reducible refine HN2.out.mono ?_);rintro e3 w3 ⟨rfl,rfl⟩);go_upto_region 11 with(go_at_call 144;(with_reducible refine HN3.out.mono ?_);rintro e3 w3 ⟨rfl,rfl⟩);have HR:=V3 (V5 HP2.out (HG.out.trans HG2.out));go_wp2_with(first|((with_reducible refine AF 29 (.tmp 5) rfl ?_);refine BZ 29 Tryz.underlying29 rfl (.tmp 5) w1.heap.size (Gv 0 0 name) 29 AE rfl rfl rfl hb5 ?_)|((with_reducible refine AG 29 (.tmp 4) (.tmp 45) rfl ?_);refine BL 29 (.tmp 4) (.tmp 45) w.heap.size (Gv 0 0 name) (AJ 0 0) 29 AE rfl (Fz _ _ _) rfl rfl rfl rfl hr0 ?_;intro w8 hb8 k8 d8));refine bodyPost_ret (AO rfl rfl AE Tryz.underlying29 rfl hb8) rfl ?_;have hS:=HS.out;exact⟨rfl,HR.out.1.keep k8 (fun i hi e=>by omega),VV HR.out.2.keeps k8 fun i hi e=>by omega⟩
end Go.Proofs.YthpflelgbadkcaaGreatDoor
namespace Go.Proofs.YthpflelgbadkcaaGreatDoor.Pl
open Go.RowKit
abbrev Clm:=Int×Int×Int×Int
def zc:Clm:=(0,0,0,0)
def TC (x:Int):Prop:= -1099511627776≤x∧x≤1099511627776
instance (x:Int):Decidable (TC x):=by unfold TC;infer_instance
def TO (c:Clm):Prop:=TC c.1∧TC c.2.1∧TC c.2.2.1∧TC c.2.2.2
instance (c:Clm):Decidable (TO c):=by unfold TO;infer_instance
def n0 (b a c:Clm):Int:=wrap64 (c.1-2*a.1+b.1)
def n1 (a c:Clm):Int:=wrap64 ((c.2.1-c.1)-(a.2.1-a.1))
def n2 (a c:Clm):Int:=wrap64 (c.2.2.1-a.2.2.1)
def n3 (a c:Clm):Int:=wrap64 ((c.2.2.2-c.2.2.1)-(a.2.2.2-a.2.2.1))
def c4 (b a c:Clm):List Int:=[n0 b a c,n1 a c,n2 a c,n3 a c]
def l4 (d:Clm):List Int:=[d.1,d.2.1,d.2.2.1,d.2.2.2]
end Go.Proofs.YthpflelgbadkcaaGreatDoor.Pl
namespace Go.Proofs.YthpflelgbadkcaaGreatDoor
open Go.RowKit Pl
def Dp (c:Clm):List Value:=[.int .i64 c.1,.int .i64 c.2.1,.int .i64 c.2.2.1,.int .i64 c.2.2.2]
def vc (c:Clm):Value:= .agg (Dp c).toArray
def F2 (cs:List Clm):List Value:=cs.flatMap Dp
theorem IZ (cs:List Clm):(F2 cs).length=cs.length*4:=by
 induction cs with
 |nil=>rfl
 |cons c cs ih=>unfold F2 at*;rw[List.flatMap_cons,VR,ih,List.length_cons];simp[Dp];omega
theorem M3 (cs ds:List Clm):F2 (cs++ds)=F2 cs++F2 ds:=by unfold F2;rw[List.flatMap_append]
theorem Q1 (c:Clm):F2 [c]=Dp c:=by simp[F2]
def U5 (w:World) (B:Nat) (v:Value) (cs:List Clm):Prop:=
 ∃A c,v= .slice A cs.length c∧cs.length≤c∧(0<cs.length→∃b o,A=some ⟨b,o,none⟩∧b<B∧∀j u,(F2 cs)[j]? =some u→w.cell? ⟨b,o+j,none⟩=some u)
section
variable {w w':World} {B B':Nat} {v:Value} {cs:List Clm} {S:Nat→Prop}
end
def q1 (cs:List Clm) (j:Nat):Clm:=(zc::cs).getD j zc
def q2 (cs:List Clm) (j:Nat):Clm:=(zc::zc::cs).getD j zc
theorem UY (a c:Clm):wrap64 (c.2.2.1-a.2.2.1)=n2 a c:=rfl
section
variable {ops:Array Oper} {rest:List Oper} {o:Oper} {a:Act} {w:World} {Q:Exit→Act→World→Prop}
end
end Go.Proofs.YthpflelgbadkcaaGreatDoor
