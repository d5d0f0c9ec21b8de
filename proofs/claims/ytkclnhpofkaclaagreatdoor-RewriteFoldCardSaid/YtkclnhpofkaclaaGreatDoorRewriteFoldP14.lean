/- What the card of the law stands on: Late, LateC, ParC, ParD, Lives. -/
import Derived.OrdersHeld
import Derived.StillTail
import Derived.Deep.MidRow
import Derived.Test.YtkclnhpofkaclaaGreatDoorRewriteFoldP13
import Derived.Test.YtkclnhpofkaclaaGreatDoorRewriteFoldP01
import Derived.Test.YtkclnhpofkaclaaGreatDoorRewriteFoldP11
set_option maxRecDepth 100000
set_option maxHeartbeats 12800000
set_option linter.unusedVariables false
set_option linter.unusedSimpArgs false
namespace Go.Proofs.YtkclnhpofkaclaaGreatDoor
open Go
section
variable {P:Program} {ops:Array Oper} {Q:Exit→Act→World→Prop} {md:Region.Mode} {Gs:List (Nat×(World→Prop))}
def Au (Gs:List (Nat×(World→Prop))) (listed:Array Bool) (w:World):Prop:=∀p∈Gs,listed.getD p.1 false=false→p.2 w
def AW (md:Region.Mode) (ops:Array Oper) (listed:Array Bool):Prop:=
 ∀j oj,ops[j]? =some oj→listed.getD j false=true→∀e∈oj.after,Region.binds md e=true→listed.getD e.on false=true
theorem AW.start (n:Nat):AW md ops (Array.replicate n false):=fun j oj _ hl=>by
 rw[getD_replicate_false]at hl;cases hl
theorem AW.set {i:Nat} {listed:Array Bool} (h:AW md ops listed) (hi:i∈Region.ready md ops listed):AW md ops (listed.setIfInBounds i true):=fun j oj hj hl e he hb=>by
 obtain⟨_,oi,hoi,hall⟩:=mem_ready.1 hi;by_cases hij:i=j
 ·subst hij;have:oj=oi:=Uf (hj.symm.trans hoi);subst this;exact getD_set_true (hall e he hb)
 rw[getD_set_ne false hij]at hl;exact getD_set_true (h j oj hj hl e he hb)
theorem AW.before {i s:Nat} {listed:Array Bool} (h:AW md ops listed) (hun:listed.getD i true=false) (hw:Region.waitsFor md ops s i=true):listed.getD s false=false:=by
 obtain⟨oj,hoj,e,he,hb,hon⟩:=Region.waitsFor_spec hw;cases hl:listed.getD s false with
 |false=>rfl
 |true=>
  have h2:=h s oj hoj hl e he hb;rw[hon,getD_both hun]at h2;cases h2
theorem AW.before' {i s:Nat} {listed:Array Bool} (h:AW md ops listed) (hun:listed.getD i false=false) (hw:Region.waitsFor md ops s i=true):listed.getD s false=false:=by
 obtain⟨oj,hoj,e,he,hb,hon⟩:=Region.waitsFor_spec hw;cases hl:listed.getD s false with
 |false=>rfl
 |true=>
  have h2:=h s oj hoj hl e he hb;rw[hon,hun]at h2;cases h2
def JO (md:Region.Mode) (ops:Array Oper):List Nat→Bool
 |a::b::r=>Region.waitsFor md ops a b&&JO md ops (b::r)
 |_=>true
theorem AW.path {i:Nat} {listed:Array Bool} (h:AW md ops listed) (hun:listed.getD i false=false):∀(mid:List Nat) (s:Nat),JO md ops (s::(mid++[i]))=true→listed.getD s false=false
 |[],s,hw=>h.before' hun (by simpa[JO]using hw)
 |k::mid,s,hw=>by
  simp only[List.cons_append,JO,Bool.and_eq_true]at hw;exact h.before' (h.path hun mid k hw.2) hw.1
def NS (md:Region.Mode) (ops:Array Oper) (Gs:List (Nat×(World→Prop))) (i:Nat) (w:World):Prop:=∃l,AW md ops l∧l.getD i true=false∧Au Gs l w
def Az (P:Program) (md:Region.Mode) (ops:Array Oper) (Q:Exit→Act→World→Prop) (Gs:List (Nat×(World→Prop))):Nat→Array Bool→Act→World→Prop
 |0,listed,a,w=>Region.ready md ops listed=[]∧Q .normal a w
 |fuel+1,listed,a,w=>
  (Region.ready md ops listed=[]→Q .normal a w)∧
  ∀i∈Region.ready md ops listed,wpOp P ops Q i (fun a' w'=>Au Gs (listed.setIfInBounds i true) w'∧Az P md ops Q Gs fuel (listed.setIfInBounds i true) a' w') a w
theorem Ii:∀(fuel:Nat) (listed:Array Bool) (a:Act) (w:World),Az P md ops Q Gs fuel listed a w→wpAny P md ops Q fuel listed a w
 |0,_,_,_,h=>h
 |fuel+1,_,_,_,h=>⟨h.1,fun i hi=>wpOp_mono (fun a' w' h'=>Ii fuel _ a' w' h'.2) (h.2 i hi)⟩
theorem Au.set {i:Nat} {l:Array Bool} {w:World} (hne:∀p∈Gs,p.1≠i):Au Gs (l.setIfInBounds i true) w↔Au Gs l w:=by
 unfold Au;constructor
 ·intro h p hp hl;exact h p hp (by rw[getD_set_ne false (Ne.symm (hne p hp))];exact hl)
 intro h p hp hl;exact h p hp (by rw[getD_set_ne false (Ne.symm (hne p hp))]at hl;exact hl)
theorem Da {i:Nat} {oi:Oper} {v:Value} (hi:ops[i]? =some oi) (hsel:∀(j:Nat) (o:Oper) cs b,ops[j]? =some o→o.op≠.select cs b)
  (hQ:∀c a w,Q (.panic c) (a.put oi.dst v) w→Q (.panic c) a w) (hne:∀p∈Gs,p.1≠i):
  ∀(fuel:Nat) (listed:Array Bool) (a:Act) (w:World),AW md ops listed→
   (∀j oj,ops[j]? =some oj→j≠i→listed.getD j true=false→(∀e∈oj.after,Region.binds md e=true→e.on≠i)→oi.apart ops oj=true)→
   i∈Region.ready md ops listed→YieldsIf P ops (NS md ops Gs i) oi v a→Au Gs listed w→
   Az P md ops Q Gs fuel (listed.setIfInBounds i true) (a.put oi.dst v) w→Az P md ops Q Gs (fuel+1) listed a w:=by
 intro fuel
 induction fuel with
 |zero=>
  intro listed a w hcl _ hr hy hS H;refine⟨fun h=>(by rw[h]at hr;cases hr),fun j hj=>?_⟩;by_cases hji:j=i
  ·subst hji;exact hy.wpOp hi ⟨listed,hcl,(mem_ready.1 hr).1,hS⟩ ⟨(Au.set hne).2 hS,H⟩
  have:=ready_mono hj hji;rw[H.1]at this;cases this
 |succ fuel ih=>
  intro listed a w hcl hfree hr hy hS H;refine⟨fun h=>(by rw[h]at hr;cases hr),fun j hj=>?_⟩;by_cases hji:j=i
  ·subst hji;exact hy.wpOp hi ⟨listed,hcl,(mem_ready.1 hr).1,hS⟩ ⟨(Au.set hne).2 hS,H⟩
  have h1:=H.2 j (ready_mono hj hji);obtain⟨hjun,oj,hoj,hall⟩:=mem_ready.1 hj;have hnot:∀e∈oj.after,Region.binds md e=true→e.on≠i:=fun e he hb heq=>by
   have h1:=hall e he hb;rw[heq,getD_both (mem_ready.1 hr).1]at h1;cases h1
  have h2:=wpOp_putIf hoj (hfree j oj hoj hji hjun hnot) (fun cs b=>hsel i oi cs b hi) (fun cs b=>hsel j oj cs b hoj) hQ hy h1;have hfree':∀k ok,ops[k]? =some ok→k≠i→(listed.setIfInBounds j true).getD k true=false→
    (∀e∈ok.after,Region.binds md e=true→e.on≠i)→oi.apart ops ok=true:=fun k ok hk hki hun hno=>by
   refine hfree k ok hk hki ?_ hno;by_cases hjk:j=k
   ·subst hjk;exact hjun
   rw[getD_set_ne true hjk]at hun;exact hun
  refine wpOp_mono (fun a' w' h3=>?_) h2;obtain⟨h4,h5,h6⟩:=h3;rw[Array.setIfInBounds_comm _ _ (Ne.symm hji)]at h5 h6;have h7:=(Au.set hne).1 h5;exact⟨h7,ih (listed.setIfInBounds j true) a' w' (hcl.set hj) hfree' (ready_mono hr (Ne.symm hji)) h4 h7 h6⟩
theorem EO {i:Nat} (h:(Gs.map (·.1)).contains i=false):∀p∈Gs,p.1≠i:=fun p hp e=>by
 have:(Gs.map (·.1)).contains i=true:=by
  rw[List.contains_iff_mem];exact List.mem_map.2 ⟨p,hp,e⟩
 rw[h]at this;cases this
theorem Ha {i:Nat} {oi:Oper} {v:Value} {fuel:Nat} {listed:Array Bool} {a:Act} {w:World} (hi:ops[i]? =some oi)
  (hs:Region.noSelect ops=true) (hf:Region.free md ops listed i=true) (hr:(Region.ready md ops listed).contains i=true) (hcl:AW md ops listed) (hK:Au Gs listed w) (hne':(Gs.map (·.1)).contains i=false)
  (hQ:∀c a w,Q (.panic c) (a.put oi.dst v) w→Q (.panic c) a w) (hgd:oi.guard=none) (hy:∀w,(execOp a.eval oi).run P w= .ok (.value v) w)
  (h:AW md ops (listed.setIfInBounds i true)→Au Gs (listed.setIfInBounds i true) w→Az P md ops Q Gs fuel (listed.setIfInBounds i true) (a.put oi.dst v) w):Az P md ops Q Gs (fuel+1) listed a w:=by
 have hr':i∈Region.ready md ops listed:=by simpa using hr
 have hne:=EO hne';exact Da hi (Region.noSelect_spec hs) hQ hne fuel listed a w hcl (Region.free_spec hi hf) hr' (.inl ⟨by simp[Region.wanted,hgd],fun w _=>hy w⟩) hK (h (hcl.set hr') ((Au.set hne).2 hK))
theorem D3 (s:Nat) (A:World→Prop) {i:Nat} {oi:Oper} {v:Value} {fuel:Nat} {listed:Array Bool} {a:Act} {w:World} (hi:ops[i]? =some oi)
  (hs:Region.noSelect ops=true) (hf:Region.free md ops listed i=true) (hr:(Region.ready md ops listed).contains i=true) (hcl:AW md ops listed) (hK:Au Gs listed w) (hne':(Gs.map (·.1)).contains i=false)
  (k:Nat) (hm':Gs[k]? =some (s,A)) (hw:Region.waitsFor md ops s i=true)
  (hQ:∀c a w,Q (.panic c) (a.put oi.dst v) w→Q (.panic c) a w) (hgd:oi.guard=none) (hy:∀w,A w→(execOp a.eval oi).run P w= .ok (.value v) w)
  (h:AW md ops (listed.setIfInBounds i true)→Au Gs (listed.setIfInBounds i true) w→Az P md ops Q Gs fuel (listed.setIfInBounds i true) (a.put oi.dst v) w):Az P md ops Q Gs (fuel+1) listed a w:=by
 have hr':i∈Region.ready md ops listed:=by simpa using hr
 have hne:=EO hne';exact Da hi (Region.noSelect_spec hs) hQ hne fuel listed a w hcl (Region.free_spec hi hf) hr' (.inl ⟨by simp[Region.wanted,hgd],fun w ⟨l,h1,h2,h3⟩=>hy w (h3 _ (Uk hm') (h1.before h2 hw))⟩) hK (h (hcl.set hr') ((Au.set hne).2 hK))
theorem CB (mid:List Nat) (s:Nat) (A:World→Prop) {i:Nat} {oi:Oper} {v:Value} {fuel:Nat} {listed:Array Bool} {a:Act} {w:World} (hi:ops[i]? =some oi)
  (hs:Region.noSelect ops=true) (hf:Region.free md ops listed i=true) (hr:(Region.ready md ops listed).contains i=true) (hcl:AW md ops listed) (hK:Au Gs listed w) (hne':(Gs.map (·.1)).contains i=false)
  (k:Nat) (hm':Gs[k]? =some (s,A)) (hw:JO md ops (s::(mid++[i]))=true)
  (hQ:∀c a w,Q (.panic c) (a.put oi.dst v) w→Q (.panic c) a w) (hgd:oi.guard=none) (hy:∀w,A w→(execOp a.eval oi).run P w= .ok (.value v) w)
  (h:AW md ops (listed.setIfInBounds i true)→Au Gs (listed.setIfInBounds i true) w→Az P md ops Q Gs fuel (listed.setIfInBounds i true) (a.put oi.dst v) w):Az P md ops Q Gs (fuel+1) listed a w:=by
 have hr':i∈Region.ready md ops listed:=by simpa using hr
 have hne:=EO hne';exact Da hi (Region.noSelect_spec hs) hQ hne fuel listed a w hcl (Region.free_spec hi hf) hr' (.inl ⟨by simp[Region.wanted,hgd],fun w ⟨l,h1,h2,h3⟩=>hy w (h3 _ (Uk hm') (h1.path (getD_both h2) mid s hw))⟩) hK (h (hcl.set hr') ((Au.set hne).2 hK))
theorem DG (s:Nat) (A:World→Prop) {i:Nat} {oi:Oper} {fuel:Nat} {listed:Array Bool} {a:Act} {w:World} (hi:ops[i]? =some oi)
  (hs:Region.noSelect ops=true) (hf:Region.free md ops listed i=true) (hr:(Region.ready md ops listed).contains i=true) (hcl:AW md ops listed) (hK:Au Gs listed w) (hne':(Gs.map (·.1)).contains i=false)
  (k:Nat) (hm':Gs[k]? =some (s,A)) (hw:Region.waitsFor md ops s i=true) (ty:TypeId) (x:Operand) (ho:oi.op= .load ty x) (b o:Nat) (hx:a.eval x= .pointer (some ⟨b,o,none⟩)) (cs:List Value) (d:TypeDesc) (hS:∀w,A w→w.rangeAt b o cs)
  (hu:P.underlying ty=some d) (hd:d.isRow=true) (hin:(P.info? ty).map (·.size)=some cs.length)
  (hQ:∀c a w,Q (.panic c) (a.put oi.dst (.agg cs.toArray)) w→Q (.panic c) a w) (hgd:oi.guard=none)
  (h:AW md ops (listed.setIfInBounds i true)→Au Gs (listed.setIfInBounds i true) w→Az P md ops Q Gs fuel (listed.setIfInBounds i true) (a.put oi.dst (.agg cs.toArray)) w):Az P md ops Q Gs (fuel+1) listed a w:=
 D3 s A hi hs hf hr hcl hK hne' k hm' hw hQ hgd (fun w' hA=>by
  unfold execOp;simp only[ho,hx,Instr.loadAt,Instr.sureAddr,Sem.run_bind,Sem.run_pure,Result.andThen_ok,run_loadVar_mid w' b o ty cs d (hS w' hA) hu hd hin]) h
theorem Pq {i:Nat} {oi:Oper} {fuel:Nat} {listed:Array Bool} {a:Act} {w:World} (hcl:AW md ops listed) (hr:Region.ready md ops listed=[i]) (hi:ops[i]? =some oi) (hgd:oi.guard=none)
  (h:∀K:Act→World→Prop,(∀a' w',Au Gs (listed.setIfInBounds i true) w'→(AW md ops (listed.setIfInBounds i true)→Au Gs (listed.setIfInBounds i true) w'→Az P md ops Q Gs fuel (listed.setIfInBounds i true) a' w')→K a' w')→oi.wp P a w K Q):Az P md ops Q Gs (fuel+1) listed a w:=by
 refine⟨(fun h0=>by rw[hr]at h0;cases h0),fun j hj=>?_⟩;have hj':=hj;rw[hr]at hj;have:j=i:=by simpa using hj
 subst this;unfold wpOp;simp only[hi,Region.wanted,hgd,if_true];exact .inl (h _ fun a' w' h1 h2=>⟨h1,h2 (hcl.set hj') h1⟩)
theorem CX {s1:Nat} {A:World→Prop} {l:Array Bool} {w:World} (h1:l.getD s1 false=true∨A w):Au [(s1,A)] l w:=by
 intro p hp hl;obtain rfl:=Ug.1 hp;rcases h1 with h|h
 ·rw[h]at hl;cases hl
 exact h
theorem Fb {s1 s2:Nat} {A B:World→Prop} {l:Array Bool} {w:World} (h1:l.getD s1 false=true∨A w) (h2:l.getD s2 false=true∨B w):Au [(s1,A),(s2,B)] l w:=by
 intro p hp hl;rcases List.mem_cons.1 hp with rfl|hp
 ·rcases h1 with h|h
  ·rw[h]at hl;cases hl
  exact h
 obtain rfl:=Ug.1 hp;rcases h2 with h|h
 ·rw[h]at hl;cases hl
 exact h
theorem Q4 {listed:Array Bool} {a:Act} {w:World} (hr:Region.ready md ops listed=[]) (h:Q .normal a w):∀fuel,Az P md ops Q Gs fuel listed a w
 |0=>⟨hr,h⟩
 |_+1=>⟨fun _=>h,by rw[hr];simp⟩
theorem Hr (Gs:List (Nat×(World→Prop))) {id:Nat} {a:Act} {w:World} (hm:P.follows .mixedOrders=true) (hK:∀p∈Gs,p.2 w.drew)
  (h:AW .any ops (Array.replicate ops.size false)→Au Gs (Array.replicate ops.size false) w.drew→Az P .any ops Q Gs ops.size (Array.replicate ops.size false) a w.drew):(Code.region id ops true).wp P Q a w:=
 wp_region_any hm (Ii _ _ _ _ (h (AW.start _) (fun p hp _=>hK p hp)))
end
section
variable {P:Program} {ops:Array Oper} {Q:Exit→Act→World→Prop} {md:Region.Mode} {Gs:List (Nat×(World→Prop))}
def YC (P:Program) (ops:Array Oper) (S:World→Prop) (o:Oper) (v:Value) (f:FuncId) (args:Array Value) (a:Act):Prop:=
 Region.wanted o (yielded ops a.tmps)=true∧(∀w,S w→(execOp a.eval o).run P w= .ok (.enter f args) w)∧∀w,S w→Calls P f args w fun e w'=>e= .returned v∧w'=w
variable {f:FuncId} {args:Array Value}
theorem YC.wpOp {S:World→Prop} {i:Nat} {o:Oper} {v:Value} {a:Act} (hi:ops[i]? =some o) (hy:YC P ops S o v f args a)
  {K:Act→World→Prop} {w:World} (hS:S w) (h:K (a.put o.dst v) w):wpOp P ops Q i K a w:=by
 unfold Go.wpOp;simp only[hi];obtain⟨hw,hv,hc⟩:=hy;simp only[hw,if_true,Oper.wp,hv w hS,Oper.upon];refine .inl ((hc w hS).mono fun e w' he=>?_);obtain⟨rfl,rfl⟩:=he;exact h
theorem YC.of_same {S:World→Prop} {o:Oper} {v:Value} {a a':Act} (hy:YC P ops S o v f args a) (he:execOp a'.eval o=execOp a.eval o)
  (hw:Region.wanted o (yielded ops a'.tmps)=Region.wanted o (yielded ops a.tmps)):YC P ops S o v f args a':=by
 unfold YC at*;rw[he,hw];exact hy
theorem NY {S:World→Prop} {j:Nat} {oi oj:Oper} {v:Value} (hj:ops[j]? =some oj) (hap:oi.apart ops oj=true)
  (hsi:∀cs b,oi.op≠.select cs b) (hsj:∀cs b,oj.op≠.select cs b)
  (hQ:∀c a w,Q (.panic c) (a.put oi.dst v) w→Q (.panic c) a w) {K:Act→World→Prop} {a:Act} {w:World}
  (hy:YC P ops S oi v f args a) (h:wpOp P ops Q j K (a.put oi.dst v) w):
  wpOp P ops Q j (fun a' w'=>YC P ops S oi v f args a'∧K (a'.put oi.dst v) w') a w:=by
 obtain⟨h1,h2,h3⟩:=Oper.apart_spec hap;have keep:∀(a:Act),YC P ops S oi v f args a→∀u,YC P ops S oi v f args (a.put oj.dst u):=fun a hy u=>
  hy.of_same (execOp_put oi hsi a oj.dst u h3) (wanted_put oi a oj.dst u h3)
 have keepD:∀d,YC P ops S oi v f args { a with defers:=d::a.defers }:=fun d=>hy.of_same rfl rfl
 unfold wpOp at*;simp only[hj]at*;rw[wanted_put oj a oi.dst v h1]at h;split
 ·rename_i hw
  simp only[hw,if_true]at h;rcases h with h|⟨hasks,hlets⟩
  case inr=>exact .inr ⟨by unfold Oper.asks at*;rw[execOp_put oj hsj a oi.dst v h1]at hasks;exact hasks,hlets⟩
  refine .inl ?_;unfold Oper.wp at*;rw[execOp_put oj hsj a oi.dst v h1]at h;generalize (execOp a.eval oj).run P w=r at*;cases r with
  |ok n w'=>
   cases n<;>simp only[Oper.upon]at h ⊢
   case value u=>exact⟨keep a hy u,by rw[←Act.put_comm a v u h2];exact h⟩
   case skip=>exact⟨keep a hy _,by rw[←Act.put_comm a v undef h2];exact h⟩
   case defer d=>
    refine⟨keep _ (keepD d) _,?_⟩;rw[←Act.put_comm _ v undef h2,←Act.put_defers];exact h
   case enter f' args'=>
    refine Calls.mono h fun e w'' he=>?_
    cases e with
    |returned u=>exact⟨keep a hy u,by rw[←Act.put_comm a v u h2];exact he⟩
    |panicked c=>exact hQ _ _ _ he
    |outgrown=>exact he
   case row row args'=>exact Rows.mono h fun u w'' he=>⟨keep a hy u,by rw[←Act.put_comm a v u h2];exact he⟩
  |halt x w'=>
   cases x<;>simp only[Oper.upon]at h ⊢
   case panic u=>exact hQ _ _ _ h
 ·rename_i hw
  simp only[hw]at h;exact⟨keep a hy _,by rw[←Act.put_comm a v undef h2];exact h⟩
theorem J6 {i:Nat} {oi:Oper} {v:Value} (hi:ops[i]? =some oi) (hsel:∀(j:Nat) (o:Oper) cs b,ops[j]? =some o→o.op≠.select cs b)
  (hQ:∀c a w,Q (.panic c) (a.put oi.dst v) w→Q (.panic c) a w) (hne:∀p∈Gs,p.1≠i):
  ∀(fuel:Nat) (listed:Array Bool) (a:Act) (w:World),AW md ops listed→
   (∀j oj,ops[j]? =some oj→j≠i→listed.getD j true=false→(∀e∈oj.after,Region.binds md e=true→e.on≠i)→oi.apart ops oj=true)→
   i∈Region.ready md ops listed→YC P ops (NS md ops Gs i) oi v f args a→Au Gs listed w→
   Az P md ops Q Gs fuel (listed.setIfInBounds i true) (a.put oi.dst v) w→Az P md ops Q Gs (fuel+1) listed a w:=by
 intro fuel
 induction fuel with
 |zero=>
  intro listed a w hcl _ hr hy hS H;refine⟨fun h=>(by rw[h]at hr;cases hr),fun j hj=>?_⟩;by_cases hji:j=i
  ·subst hji;exact hy.wpOp hi ⟨listed,hcl,(mem_ready.1 hr).1,hS⟩ ⟨(Au.set hne).2 hS,H⟩
  have:=ready_mono hj hji;rw[H.1]at this;cases this
 |succ fuel ih=>
  intro listed a w hcl hfree hr hy hS H;refine⟨fun h=>(by rw[h]at hr;cases hr),fun j hj=>?_⟩;by_cases hji:j=i
  ·subst hji;exact hy.wpOp hi ⟨listed,hcl,(mem_ready.1 hr).1,hS⟩ ⟨(Au.set hne).2 hS,H⟩
  have h1:=H.2 j (ready_mono hj hji);obtain⟨hjun,oj,hoj,hall⟩:=mem_ready.1 hj;have hnot:∀e∈oj.after,Region.binds md e=true→e.on≠i:=fun e he hb heq=>by
   have h1:=hall e he hb;rw[heq,getD_both (mem_ready.1 hr).1]at h1;cases h1
  have h2:=NY hoj (hfree j oj hoj hji hjun hnot) (fun cs b=>hsel i oi cs b hi) (fun cs b=>hsel j oj cs b hoj) hQ hy h1;have hfree':∀k ok,ops[k]? =some ok→k≠i→(listed.setIfInBounds j true).getD k true=false→
    (∀e∈ok.after,Region.binds md e=true→e.on≠i)→oi.apart ops ok=true:=fun k ok hk hki hun hno=>by
   refine hfree k ok hk hki ?_ hno;by_cases hjk:j=k
   ·subst hjk;exact hjun
   rw[getD_set_ne true hjk]at hun;exact hun
  refine wpOp_mono (fun a' w' h3=>?_) h2;obtain⟨h4,h5,h6⟩:=h3;rw[Array.setIfInBounds_comm _ _ (Ne.symm hji)]at h5 h6;have h7:=(Au.set hne).1 h5;exact⟨h7,ih (listed.setIfInBounds j true) a' w' (hcl.set hj) hfree' (ready_mono hr (Ne.symm hji)) h4 h7 h6⟩
theorem H7 (f:FuncId) (args:Array Value) {i:Nat} {oi:Oper} {v:Value} {fuel:Nat} {listed:Array Bool} {a:Act} {w:World} (hi:ops[i]? =some oi)
  (hs:Region.noSelect ops=true) (hf:Region.free md ops listed i=true) (hr:(Region.ready md ops listed).contains i=true) (hcl:AW md ops listed) (hK:Au Gs listed w) (hne':(Gs.map (·.1)).contains i=false)
  (hQ:∀c a w,Q (.panic c) (a.put oi.dst v) w→Q (.panic c) a w) (hgd:oi.guard=none) (hy:∀w,(execOp a.eval oi).run P w= .ok (.enter f args) w) (hc:∀w,Calls P f args w fun e w'=>e= .returned v∧w'=w)
  (h:AW md ops (listed.setIfInBounds i true)→Au Gs (listed.setIfInBounds i true) w→Az P md ops Q Gs fuel (listed.setIfInBounds i true) (a.put oi.dst v) w):Az P md ops Q Gs (fuel+1) listed a w:=by
 have hr':i∈Region.ready md ops listed:=by simpa using hr
 have hne:=EO hne';exact J6 hi (Region.noSelect_spec hs) hQ hne fuel listed a w hcl (Region.free_spec hi hf) hr' ⟨by simp[Region.wanted,hgd],fun w _=>hy w,fun w _=>hc w⟩ hK (h (hcl.set hr') ((Au.set hne).2 hK))
end
end Go.Proofs.YtkclnhpofkaclaaGreatDoor
namespace Go.Proofs.YtkclnhpofkaclaaGreatDoor
open Go.RowKit Pl
def Mr (ls:List ByteArray) (s:ByteArray):Int:=match ls.findIdx? fun a=>a.toList==s.toList with
 |some j=>(j:Nat)
 |none=> -1
theorem Qw {ls:List ByteArray} {s a:ByteArray} {j:Nat} (h:ls[j]? =some a) (he:(a.toList==s.toList)=true) (hn:∀(i:Nat) (a:ByteArray),i<j→ls[i]? =some a→(a.toList==s.toList)=false):Mr ls s=(j:Nat):=by
 have hj:=(Uh.1 h).1;have:ls.findIdx? (fun a=>a.toList==s.toList)=some j:=by
  rw[List.findIdx?_eq_some_iff_getElem];refine⟨hj,?_,fun i hi=>?_⟩
  ·rw[(Uh.1 h).2];exact he
  rw[hn i _ hi (Uc (by omega))];simp
 unfold Mr;rw[this]
theorem O3 {ls:List ByteArray} {s:ByteArray} (hn:∀(i:Nat) (a:ByteArray),ls[i]? =some a→(a.toList==s.toList)=false):Mr ls s= -1:=by
 have:ls.findIdx? (fun a=>a.toList==s.toList)=none:=by
  rw[List.findIdx?_eq_none_iff];intro a ha;obtain⟨i,hi⟩:=List.getElem?_of_mem ha;exact hn i a hi
 unfold Mr;rw[this]
theorem M1 (v:Value) (ls:List ByteArray) (s:ByteArray) (w:World) (h:Bs w w.heap.size 1 v (ls.map fun s=>[Value.string s])) (hl:ls.length≤1000000):Calls Tryz.prog 127 #[v,.string s] w (fun e w'=>e= .returned (.int .i64 (Mr ls s))∧w'=w):=by
 obtain⟨A,c,rfl,hc,hx⟩:=h;rw[List.length_map]at hc hx ⊢;obtain⟨n,hn⟩:∃n,ls.length=n:=⟨_,rfl⟩;rw[hn]at hc hx hl ⊢;have HN:=UX hn;have HX:=UX hx;clear hn hx;go_enter Tryz.func127,Tryz.ntmps127;go_wp2_with fail;go_loopw [5,8] (fun _ i wr=>∃(j:Nat),j≤n∧(i= .int .i64 (j:Nat)∧w=wr)∧∀(i:Nat) (a:ByteArray),i<j→ls[i]? =some a→(a.toList==s.toList)=false) (fun _ i _=>n-(intOf i).toNat)
 case atStart=>exact⟨0,by omega,⟨rfl,rfl⟩,fun i a h _=>by omega⟩
 case round=>
  obtain⟨j,hj,⟨rfl,rfl⟩,hinv⟩:=hrel;have HI:=UX hinv;clear hinv;by_cases hlt:j<n
  ·obtain⟨b,o,rfl,hb,hcell⟩:=HX.out (by omega);obtain⟨a,ha⟩:∃a,ls[j]? =some a:=⟨_,Uc (by rw[HN.out];exact hlt)⟩;have hcl:w.cell? ⟨b,o+j,none⟩=some (.string a):=by
    have:=hcell j [.string a] (by rw[List.getElem?_map,ha];rfl) 0 _ rfl;rw[Nat.mul_one]at this;exact this
   have HA:=UX ha;clear ha hcell;by_cases he:a.toList=s.toList
   ·have t1:(a.toList==s.toList)=true:=by rw[Ud];exact he
    have t2:(s.toList==a.toList)=true:=by rw[Ud];exact he.symm
    have HF:=UX (Qw HA.out t1 HI.out);clear he;go_wp2_with fail;go_ret;exact⟨by rw[HF.out];rfl,rfl⟩
   have t1:(a.toList==s.toList)=false:=by rw[UY];exact he
   have t2:(s.toList==a.toList)=false:=by rw[UY];exact fun h=>he h.symm
   have HC:=UX (show ∀(i:Nat) (a:ByteArray),i<j+1→ls[i]? =some a→(a.toList==s.toList)=false from fun i a' hi ha'=>by
    by_cases hij:i=j
    ·subst hij;rw[HA.out]at ha';obtain rfl:=Uf ha';exact t1
    exact HI.out i a' (by omega) ha')
   clear he;go_wp2_with fail;go_roundw
   case rel=>exact⟨j+1,by omega,⟨by go_num,by simp⟩,HC.out⟩
   case measure=>simp[intOf];omega
  have HF:=UX (O3 (ls:=ls) (s:=s) fun i a h=>HI.out i a (by have:=(Uh.1 h).1;have:=HN.out;omega) h);obtain rfl:j=n:=by omega
  go_wp2_with fail;go_ret;exact⟨by rw[HF.out];rfl,rfl⟩
def Jx (w:World):Prop:=5<w.heap.size∧∀j s,O1[j]? =some s→w.cell? ⟨5,j,none⟩=some (.string s)
theorem Jx.keep {S:Nat→Prop} {w w':World} (h:Jx w) (g:A4 S w w') (hs:¬S 5):Jx w':=⟨Ub h.1 g.size,fun j s hj=>(World.cell?_of_block (a:=⟨5,j,none⟩) (g.block _ h.1 hs)).trans (h.2 j s hj)⟩
theorem Jx.rd {w:World} (h:Jx w):Bs w w.heap.size 1 (.slice (some ⟨5,0,none⟩) 8 8) (O1.map fun s=>[Value.string s]):=by
 refine⟨_,8,rfl,by decide,fun _=>⟨_,0,rfl,h.1,fun j cs hj k u hk=>?_⟩⟩;rw[Nat.zero_add,Nat.mul_one];rw[List.getElem?_map]at hj;obtain⟨x,hx,rfl⟩:=Option.map_eq_some_iff.1 hj;obtain⟨rfl,rfl⟩:k=0∧Value.string x=u:=by
  cases k with
  |zero=>exact⟨rfl,by simpa using hk⟩
  |succ k=>simp at hk
 exact h.2 j x hx
def Dt (w:World):Prop:=1<w.heap.size∧∀j s,TY[j]? =some s→w.cell? ⟨1,j,none⟩=some (.string s)
theorem Dt.keep {S:Nat→Prop} {w w':World} (h:Dt w) (g:A4 S w w') (hs:¬S 1):Dt w':=⟨Ub h.1 g.size,fun j s hj=>(World.cell?_of_block (a:=⟨1,j,none⟩) (g.block _ h.1 hs)).trans (h.2 j s hj)⟩
def Hv (f wd:Int) (name:ByteArray):List Value:=[.int .i64 1,.int .i64 f,.int .i64 wd,.int .i64 0,.int .i64 0,.int .i64 0,.int .i64 0,.string name,.slice none 0 0,.slice none 0 0,.slice none 0 0]
theorem Ok (w:World) (g z:Nat) (n:Int) (name:ByteArray) (ts us:List Bw) (f wd:Nat) (h:Cu w g n ts) (hz:AK w z 29 (Hv 0 0 name).toArray) (hgz:g<z) (hft:Jx w) (hfz:5<g) (hf:O8 ts=some (f,wd,us)):
  Calls Tryz.prog 181 #[.pointer (some ⟨g,0,none⟩),.pointer (some ⟨z,0,none⟩)] w fun e w'=>e= .returned (.tuple #[])∧Cu w' g n us∧AK w' z 29 (Hv (f:Nat) (wd:Nat) name).toArray∧A4 (fun i=>i=g∨i=z) w w':=by
 rcases ts with _|⟨⟨tk,tt,tn,tf⟩,ts⟩
 ·cases hf
 simp only[O8]at hf;by_cases hk0:tk=0
 ·subst hk0;rw[Uo rfl]at hf;cases hx:O1.findIdx? (fun a=>a.toList==tt.toList)with
  |none=>rw[hx]at hf;cases hf
  |some q=>
   rw[hx]at hf;dsimp only at hf;have hq:Mr O1 tt=(q:Nat):=by unfold Mr;rw[hx]
   have hq8:q<8:=by
    have:=(List.findIdx?_eq_some_iff_getElem.1 hx).1;exact this
   have HK:=UX (show ∀w',Cu w' g n (⟨0,tt,tn,tf⟩::ts)→Calls Tryz.prog 168 #[.pointer (some ⟨g,0,none⟩),.int .i64 0] w' (fun e w''=>e= .returned (.bool true)∧w''=w')from fun w' h=>FO w' g n (⟨0,tt,tn,tf⟩::ts) 0 h);have HI:=UX (show ∀w',Jx w'→Calls Tryz.prog 127 #[.slice (some ⟨5,0,none⟩) 8 8,.string tt] w' (fun e w''=>e= .returned (.int .i64 (q:Nat))∧w''=w')from fun w' h=>by have h1:=M1 _ O1 tt w' h.rd (by decide);rwa[hq]at h1);obtain⟨A,m,c,hb,hr,hl⟩:=id h;obtain⟨b,o,rfl, -, -,k0,k1, -⟩:=In hr;rw[List.length_cons]at hl;obtain⟨m',hm'⟩:∃m',ts.length=m':=⟨_,rfl⟩;rw[hm']at hl;subst hl;have c0:w.cell? ⟨g,0,none⟩=some (.slice (some ⟨b,o,none⟩) (m'+1) c):=hb.cell 0;have k0:w.cell? ⟨b,o,none⟩=some (.int .i64 0):=k0;have k1:w.cell? ⟨b,o+1,none⟩=some (.string tt):=k1;have f1:w.frozen? ⟨z,1,none⟩=false:=hz.frozen 1;have z1:w.cell? ⟨z,1,none⟩=some (.int .i64 0):=hz.cell 1;have HP:=UX h;have HZ:=UX hz;have HF:=UX hft;have HFF:=UX hf;clear h hz hft hf hx hq hb hr hm';go_enter Tryz.func181,Tryz.ntmps181;go_upto_region 1 with(go_at_call 168;(with_reducible refine(HK.out _ HP.out).mono ?_);rintro e3 w3 ⟨rfl,rfl⟩);refine wp_region_still_tail 12 (by kernel_rfl) (by kernel_rfl) ?_;simp only[List.take_succ_cons,List.take_zero,List.drop_succ_cons,List.drop_zero]
   repeat still_step
   still_call (HI.out w3.drew (HF.out.keep (Uy (Uz (fun _=>False) w3)) (fun h=>h)))
   repeat still_step
   refine wpStill_nil ?_;change wpList _ _ _ _ _ w3.drew;go_upto_region 2 with fail;have hb4:AK (w3.setCell ⟨z,1,none⟩ (.int .i64 (q:Nat))).drew z 29 (Hv (q:Nat) 0 name).toArray:=(HZ.out.set_ 1 _:AK _ _ _ _).drew;have k4:A4 (fun i=>i=z) w3 (w3.setCell ⟨z,1,none⟩ (.int .i64 (q:Nat))).drew:=Uy (V0 (S:=fun i=>i=z) (p:=⟨z,1,none⟩) (Uz _ w3) (.inl rfl) _);generalize (w3.setCell ⟨z,1,none⟩ (.int .i64 (q:Nat))).drew=w4 at*;have hp4:=HP.out.keep k4 (fun i hi e=>by omega);have z1':w4.cell? ⟨z,1,none⟩=some (.int .i64 (q:Nat)):=hb4.cell 1;have HP4:=UX hp4;have HB4:=UX hb4;have HK4:=UX k4;have HT:=UX (ES w4 g n ⟨0,tt,tn,tf⟩ ts hp4);clear hb4 k4 hp4 c0 k0 k1 f1;have tq:decide ((q:Int)<0)=false:=by rw[decide_eq_false_iff_not];omega
   by_cases hq0:q=0
   ·subst hq0;have hff:=HFF.out;rw[Uo rfl]at hff;simp only[Ur,Uq]at hff;obtain⟨rfl,rfl,rfl⟩:=hff;go_wp2_with(first|(go_at_call 168;(with_reducible refine(HK.out _ HP4.out).mono ?_);rintro e3 w3' ⟨rfl,rfl⟩)|(go_at_call 167;(with_reducible refine HT.out.mono ?_);rintro e3 w5 ⟨rfl,hp5,hk5⟩;have hb5:=HB4.out.keep hk5 (by omega);have z5:w5.cell? ⟨z,1,none⟩=some (.int .i64 0):=hb5.cell 1;have HR5:=UX (UZ hp5 (UZ hk5 hb5));clear hp5 hk5 hb5));refine bodyPost_ret (results_none rfl _ _ _) rfl ?_;exact⟨rfl,HR5.out.1,HR5.out.2.2,Uw (A4.mono HK4.out fun _ _ e=> .inr e) HR5.out.2.1 fun _ _ e=> .inl e⟩
   have hff:=HFF.out;rw[Un hq0]at hff;have tq0:((q:Int)==0)=false:=by rw[UY];omega
   by_cases hq7:q=7
   ·rw[Uo hq7]at hff;cases hff
   rw[Un hq7]at hff;have tq7:((q:Int)==7)=false:=by rw[UY];omega
   by_cases hs1:Ey ts 3 ⟨#[40]⟩=true
   ·rw[Uo hs1]at hff;obtain⟨ta,tb,rfl⟩:=DB hs1;rw[List.tail_cons]at hff;rcases tb with _|⟨⟨tck,tct,tcn,tcf⟩,td⟩
    ·cases hff
    dsimp only at hff;by_cases hcond:tck=1∧1≤tcn∧tcn≤4096∧Ey td 3 ⟨#[41]⟩=true
    ·rw[Uo hcond]at hff;simp only[Ur,Uq]at hff;obtain⟨rfl,rfl,hus⟩:=hff;obtain⟨hc1,hc2,hc3,hc4⟩:=hcond;obtain⟨te,tg,rfl⟩:=DB hc4;obtain rfl:tg=us:=hus;have HS1:=UX (fun w' h=>Im w' g n ta (⟨tck,tct,tcn,tcf⟩::te::tg) ⟨#[40]⟩ h hs1);have HN:=UX (show ∀w',Cu w' g n (⟨tck,tct,tcn,tcf⟩::te::tg)→Calls Tryz.prog 178 #[.pointer (some ⟨g,0,none⟩),.int .i64 1,.int .i64 4096] w' (fun e w''=>e= .returned (.int .i64 (tcn:Nat))∧Cu w'' g n (te::tg)∧Dl g w' w'')from fun w' h=>Om w' g n ⟨tck,tct,tcn,tcf⟩ (te::tg) 1 4096 h hc1 (by show(1:Int)≤(tcn:Int);omega) (by show(tcn:Int)≤4096;omega));have HS2:=UX (fun w' h=>Im w' g n te tg ⟨#[41]⟩ h hc4);clear hc1 hc2 hc3 hc4 hs1 hq0 hq7 HFF;go_upto_region 8 with(first|(go_at_call 168;(with_reducible refine(HK.out _ HP4.out).mono ?_);rintro e3 w3' ⟨rfl,rfl⟩)|(go_at_call 167;(with_reducible refine HT.out.mono ?_);rintro e3 w5 ⟨rfl,hp5,hk5⟩;have hb5:=HB4.out.keep hk5 (by omega);have z5:w5.cell? ⟨z,1,none⟩=some (.int .i64 (q:Nat)):=hb5.cell 1;have HR5:=UX (UZ hp5 (UZ hk5 hb5));clear hp5 hk5 hb5)|(go_at_call 169;(with_reducible refine(HS1.out _ HR5.out.1).mono ?_);rintro e3 w6 ⟨rfl,hp6,hk6⟩;have HR6:=UX (UZ hp6 (UZ hk6 (HR5.out.2.2.keep hk6 (by omega))));clear hp6 hk6)|(go_at_call 178;(with_reducible refine(HN.out _ HR6.out.1).mono ?_);rintro e3 w7 ⟨rfl,hp7,hk7⟩;have hb7:=HR6.out.2.2.keep hk7 (by omega);have z7:w7.cell? ⟨z,2,none⟩=some (.int .i64 0):=hb7.cell 2;have f7:w7.frozen? ⟨z,2,none⟩=false:=hb7.frozen 2;have HR7:=UX (UZ hp7 (UZ hk7 hb7));clear hp7 hk7 hb7));have hb8:AK (w7.setCell ⟨z,2,none⟩ (.int .i64 (tcn:Nat))) z 29 (Hv (q:Nat) (tcn:Nat) name).toArray:=HR7.out.2.2.set_ 2 _;have k8:A4 (fun i=>i=z) w7 (w7.setCell ⟨z,2,none⟩ (.int .i64 (tcn:Nat))):=V0 (S:=fun i=>i=z) (p:=⟨z,2,none⟩) (Uz _ w7) (.inl rfl) _;generalize w7.setCell ⟨z,2,none⟩ (.int .i64 (tcn:Nat))=w8 at*;have hp8:=HR7.out.1.keep k8 (fun i hi e=>by omega);have z8:w8.cell? ⟨z,1,none⟩=some (.int .i64 (q:Nat)):=hb8.cell 1;have HR8:=UX (UZ hp8 (UZ k8 hb8));clear hp8 k8 hb8;go_wp2_with(go_at_call 169;(with_reducible refine(HS2.out _ HR8.out.1).mono ?_);rintro e3 w9 ⟨rfl,hp9,hk9⟩);go_end0;have kA:A4 (fun i=>i=g∨i=z) w3 w7:=Uw (Uw (Uw (A4.mono HK4.out fun _ _ e=> .inr e) HR5.out.2.1 fun _ _ e=> .inl e) HR6.out.2.1 fun _ _ e=> .inl e) HR7.out.2.1 fun _ _ e=> .inl e
     exact⟨rfl,hp9,HR8.out.2.2.keep hk9 (by omega),Uw (Uw kA HR8.out.2.1 fun _ _ e=> .inr e) hk9 fun _ _ e=> .inl e⟩
    rw[Un hcond]at hff;cases hff
   rw[Un hs1]at hff;cases hff
 rw[Un hk0]at hf;cases hf
theorem SM (f wd:Int) (name:ByteArray):∀v∈Hv f wd name,v.oneCell'=true:=by
 intro v hv;simp[Hv]at hv;rcases hv with rfl|rfl|rfl|rfl|rfl|rfl|rfl|rfl|rfl|rfl|rfl<;>rfl
def Qp (g:Nat) (n:Int) (us:List Bw) (f wd:Nat) (name:ByteArray) (w:World) (e:Ending) (w':World):Prop:=e= .returned (.agg (Hv (f:Nat) (wd:Nat) name).toArray)∧Cu w' g n us∧Dl g w w'
theorem QN (w:World) (g:Nat) (n:Int) (name:ByteArray) (ts us:List Bw) (f wd:Nat) (h:Cu w g n ts) (hft:Jx w) (hfz:5<g) (hsel:MO name ts=some (E5 (f:Nat) (wd:Nat) name,us)):
  Calls Tryz.prog 171 #[.pointer (some ⟨g,0,none⟩),.string name] w (Qp g n us f wd name w):=by
 have hg:=h.lt;have hb0:=Ux w 29 (AE 0 0).toArray;have hg0:=(Uv w).alloc (.cells (AE 0 0).toArray 29);have hs0:(w.alloc (.cells (AE 0 0).toArray 29)).heap.size=w.heap.size+1:=by simp
 have hp0:=h.grew hg0;have hf0:=hft.keep hg0 (fun h=>h);have HS:=UX (UZ hs0 hg);have HG:=UX hg0;have HSel:=UX hsel;clear hsel hft h hs0 hg0;go_enter Tryz.func171,Tryz.ntmps171;go_upto_region 1 with fail;change Code.wp _ _ _ _ (w.alloc (.cells (AE 0 0).toArray 29));generalize w.alloc (.cells (AE 0 0).toArray 29)=w1 at*;have HP0:=UX hp0;have HF0:=UX hf0;have HB0:=UX hb0;clear hp0 hf0 hb0;go_upto_region 2 with(first|((refine sN (.tmp 5) (.tmp 7) (Hv 0 0 name) (Ux w1 29 _) rX ?_ (us:=(AE 0 0));intro w2 hb2 k2 d2;have HG2:=UX (show A5 w1 w2 from Uw ((Uv w1).alloc _) k2 (fun i hi e=>by omega));clear k2 d2))|fail);have HP2:=UX (HP0.out.grew HG2.out);have HF2:=UX (HF0.out.keep HG2.out (fun h=>h));have HB2:=UX (UZ hb2 (HB0.out.grew HG2.out));have hsel:=HSel.out;unfold MO at hsel;by_cases h1:Ey ts 3 ⟨#[123]⟩=true
 ·rw[Uo h1]at hsel;cases hsel
 rw[Un h1]at hsel;have HN1:=UX (Ei w2 g n ts ⟨#[123]⟩ HP2.out (by simpa using h1));by_cases h2:Ey ts 3 ⟨#[46]⟩=true
 ·rw[Uo h2]at hsel;obtain⟨t,tb,rfl⟩:=DB h2;rw[List.tail_cons]at hsel;cases hfp:O8 tb with
  |none=>rw[hfp]at hsel;cases hsel
  |some p=>
   obtain⟨f',wd',us'⟩:=p;rw[hfp]at hsel;dsimp only at hsel;by_cases h3:Ey us' 3 ⟨#[64]⟩=true
   ·rw[Uo h3]at hsel;cases hsel
   rw[Un h3]at hsel;simp only[Ur,Uq,E5,Ex.mk.injEq,true_and,and_true]at hsel;obtain⟨⟨hf,hwd⟩,rfl⟩:=hsel;obtain rfl:f'=f:=by omega
   obtain rfl:wd'=wd:=by omega
   have HY:=UX (EM w2 g n t tb ⟨#[46]⟩ HP2.out h2);have HFn:=UX (fun w' (h:Cu w' g n tb) hz hft=>Ok w' g w1.heap.size n name tb us' f' wd' h hz (by have:=HS.out;omega) hft hfz hfp);have HN3:=UX (fun w' h=>Ei w' g n us' ⟨#[64]⟩ h (by simpa using h3));clear h1 h2 h3 hfp hf hwd HSel;go_upto_region 7 with(go_at_call 152;(with_reducible refine HN1.out.mono ?_);rintro e3 w3 ⟨rfl,rfl⟩);clear HN1;go_upto_region 8 with(go_at_call 152;(with_reducible refine HY.out.mono ?_);rintro e3 w4 ⟨rfl,hp4,hk4⟩;have HR4:=UX (UZ hp4 (UZ hk4 (HB2.out.1.keep hk4 (by have:=HS.out;omega))));clear hp4 hk4);clear HY;go_upto_region 9 with(go_at_call 181;(with_reducible refine(HFn.out _ HR4.out.1 HR4.out.2.2 (HF2.out.keep HR4.out.2.1 (by omega))).mono ?_);rintro e3 w5 ⟨rfl,hp5,hb5,hk5⟩;have HR5:=UX (UZ hp5 (UZ hk5 ((HB2.out.2.keep HR4.out.2.1 (by have:=HS.out;omega)).keep hk5 (by have:=HS.out;omega))));clear hp5 hk5);clear HFn;go_upto_region 11 with(go_at_call 152;(with_reducible refine(HN3.out _ HR5.out.1).mono ?_);rintro e3 w3 ⟨rfl,rfl⟩);clear HN3;have hr0:=HR5.out.2.2;go_wp2_with(first|(refine lN (.tmp 5) hb5 rX ?_)|(refine sN (.tmp 4) (.tmp 45) (Hv (f':Nat) (wd':Nat) name) hr0 rX ?_;intro w8 hb8 k8 d8)|fail);refine rO rX hb8 ?_;have hS:=HS.out;have k2:=V2 (S:=fun i=>i=g) (HG.out.trans HG2.out);exact⟨rfl,HR5.out.1.keep k8 (fun i hi e=>by omega),Uw (Uw (Uw k2 HR4.out.2.1 fun _ _ e=>e) HR5.out.2.1 fun i hi e=>by omega) k8 fun i hi e=>by omega⟩
 rw[Un h2]at hsel;by_cases h3:Ey ts 3 ⟨#[64]⟩=true
 ·rw[Uo h3]at hsel;cases hsel
 rw[Un h3]at hsel;simp only[Ur,Uq,E5,Ex.mk.injEq,true_and,and_true]at hsel;obtain⟨⟨hf,hwd⟩,rfl⟩:=hsel;obtain rfl:f=0:=by omega
 obtain rfl:wd=0:=by omega
 have HN2:=UX (Ei w2 g n ts ⟨#[46]⟩ HP2.out (by simpa using h2));have HN3:=UX (Ei w2 g n ts ⟨#[64]⟩ HP2.out (by simpa using h3));clear h1 h2 h3 hf hwd HSel;have hb5:=HB2.out.1;have hr0:=HB2.out.2;go_upto_region 7 with(go_at_call 152;(with_reducible refine HN1.out.mono ?_);rintro e3 w3 ⟨rfl,rfl⟩);go_upto_region 9 with(go_at_call 152;(with_reducible refine HN2.out.mono ?_);rintro e3 w3 ⟨rfl,rfl⟩);go_upto_region 11 with(go_at_call 152;(with_reducible refine HN3.out.mono ?_);rintro e3 w3 ⟨rfl,rfl⟩);have HR:=UX (UZ HP2.out (HG.out.trans HG2.out));go_wp2_with(first|(refine lN (.tmp 5) hb5 rX ?_)|(refine sN (.tmp 4) (.tmp 45) (Hv 0 0 name) hr0 rX ?_;intro w8 hb8 k8 d8)|fail);refine rO rX hb8 ?_;have hS:=HS.out;exact⟨rfl,HR.out.1.keep k8 (fun i hi e=>by omega),Uw HR.out.2.keeps k8 fun i hi e=>by omega⟩
end Go.Proofs.YtkclnhpofkaclaaGreatDoor
