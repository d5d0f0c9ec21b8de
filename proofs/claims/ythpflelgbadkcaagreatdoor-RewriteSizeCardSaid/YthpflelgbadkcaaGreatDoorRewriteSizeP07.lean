/- What the card of the law stands on: TreeS, Late, LateC, ParC. -/
import Derived.Test.YthpflelgbadkcaaGreatDoorRewriteSizeP01
import Derived.Test.YthpflelgbadkcaaGreatDoorRewriteSizeP06
import Derived.Test.YthpflelgbadkcaaGreatDoorRewriteSizeP02
import Derived.Test.YthpflelgbadkcaaGreatDoorRewriteSizeP04
import Derived.Test.YthpflelgbadkcaaGreatDoorRewriteSizeP03
import Derived.OrdersHeld
import Derived.StillTail
import Derived.Deep.MidRow
set_option maxRecDepth 100000
set_option maxHeartbeats 12800000
set_option linter.unusedVariables false
set_option linter.unusedSimpArgs false
namespace Go.Proofs.YthpflelgbadkcaaGreatDoor
open Go.RowKit Pl
def F6:Value:= .agg #[.int .i64 0,.int .i64 0,.int .i64 0,.int .i64 0,.int .i64 0,.int .i64 0,.int .i64 0,.string ⟨#[]⟩,.slice none 0 0,.slice none 0 0,.slice none 0 0]
theorem R6:P7 Tryz.prog 27 29 11 144 F6:=⟨Tryz.underlying27,by kernel_rfl,rfl,by decide,by decide⟩
def CL (w:World) (Q:Nat→Prop) (es:List Ex) (rows:List (List Value)):Prop:=rows.length=es.length∧∀(j:Nat) (e:Ex) (cs:List Value),es[j]? =some e→rows[j]? =some cs→AW w Q e cs
def J6 (B0 M:Nat) (s:Value) (E b:Nat):Prop:=(b<B0∨M≤b)∧b<E∧s.ownBlock≠some b
section
variable {w w':World} {Q Q':Nat→Prop} {es:List Ex} {rows:List (List Value)}
theorem CL.nil (w:World) (Q:Nat→Prop):CL w Q [] []:=⟨rfl,fun j e cs h=>by simp at h⟩
theorem CL.keep {S:Nat→Prop} (h:CL w Q es rows) (hq:∀b,Q b→b<w.heap.size∧¬S b∧Q' b) (hk:AC S w w'):CL w' Q' es rows:=⟨h.1,fun j e cs h1 h2=>AW.keep hq hk e cs (h.2 j e cs h1 h2)⟩
theorem CL.snoc {e:Ex} {cs:List Value} (h:CL w Q es rows) (he:AW w Q e cs):CL w Q (es++[e]) (rows++[cs]):=by
 refine⟨by rw[SX,SX,h.1];rfl,fun j e' cs' h1 h2=>?_⟩;by_cases hj:j<es.length
 ·rw[List.getElem?_append_left hj]at h1;rw[List.getElem?_append_left (by rw[h.1];exact hj)]at h2;exact h.2 j e' cs' h1 h2
 rw[List.getElem?_append_right (by omega)]at h1;rw[List.getElem?_append_right (by rw[h.1];omega),h.1]at h2;cases hz:j-es.length with
 |zero=>
  rw[hz]at h1 h2;obtain rfl:e=e':=by simpa using h1
  obtain rfl:cs=cs':=by simpa using h2
  exact he
 |succ z=>rw[hz]at h1;simp at h1
theorem CL.step {B0 M r n c:Nat} {s:Value} {t:TypeId} {o:Obj} {e:Ex} {cs:List Value} {wr w3 w6:World} (hT:CL wr (J6 B0 M s wr.heap.size) es rows) (hM:BJ wr M t 11 s rows) (hB:B0≤M) (hM2:M≤wr.heap.size) (g3:A5 wr w3) (he:AW w3 (CW B0 wr.heap.size w3.heap.size) e cs)
  (k6:AC (fun i=>s.ownBlock=some i) (w3.alloc o) w6) (hr:some r=s.ownBlock∨r=(w3.alloc o).heap.size):CL w6 (J6 B0 M (.slice (some ⟨r,0,none⟩) n c) w6.heap.size) (es++[e]) (rows++[cs]):=by
 have s3:=g3.size;have s4:(w3.alloc o).heap.size=w3.heap.size+1:=by simp
 have s6:=k6.size;have hso:∀k,s.ownBlock=some k→M≤k∧k<wr.heap.size:=hM.lt;have hrb:(.slice (some ⟨r,0,none⟩) n c:Value).ownBlock=some r:=rfl;have ga:A5 w3 (w3.alloc o):=(Sa w3).alloc o;refine CL.snoc (hT.keep (S:=fun i=>s.ownBlock=some i) (fun b hb=>?_) (Sb ((g3.trans ga).keeps (S:=fun i=>s.ownBlock=some i)) k6 fun i _ h=>h)) (AW.keep (S:=fun i=>s.ownBlock=some i) (fun b hb=>?_) (Sb (ga.keeps (S:=fun i=>s.ownBlock=some i)) k6 fun i _ h=>h) e cs he)
 ·obtain⟨h1,h2,h3⟩:=hb;refine⟨h2,h3,h1,by omega,fun h4=>?_⟩;rw[hrb]at h4;injection h4 with h4;subst h4;rcases hr with hr|hr
  ·exact h3 hr.symm
  omega
 obtain⟨h1,h2⟩:=hb;refine⟨h2,fun h4=>?_,by omega,by omega,fun h4=>?_⟩
 ·have:=hso b h4;omega
 rw[hrb]at h4;injection h4 with h4;subst h4;rcases hr with hr|hr
 ·have:=hso r hr.symm;omega
 omega
end
theorem BJ.made {e:TypeId} {sz:Nat} {w:World} {base c:Nat} (cs:Array Value) (hc:cs.size=c*sz) (hm:c≤maxLen) (hb:base≤w.heap.size):BJ (w.alloc (.cells cs e)) base e sz (.slice (some ⟨w.heap.size,0,none⟩) 0 c) []:=by
 refine⟨⟨by simp,.inr ⟨w.heap.size,c,cs,rfl,hb,Sc w e cs,Nat.zero_le _,hm,hc,by simp⟩⟩,by intro r hr;cases hr⟩
theorem RU (e:Ex) (a b c:Value):List.foldl (fun(cs:Array Value) (x:Value×Nat)=>cs.setIfInBounds x.snd x.fst) #[.int .i64 0,.int .i64 0,.int .i64 0,.int .i64 0,.int .i64 0,.int .i64 0,.int .i64 0,.string ⟨#[]⟩,.slice none 0 0,.slice none 0 0,.slice none 0 0] (AE e a b c).zipIdx=(AE e a b c).toArray:=by
 simp[AE,List.zipIdx]
theorem Al {e:Ex} {w:World} {Q:Nat→Prop} {cs:List Value} (h:AW w Q e cs):∀v∈cs,v.oneCell'=true:=by
 obtain⟨vm,vb,vk,rfl,h1,h2,h3⟩:=h.open_;obtain⟨A1,n1,c1,rfl, -⟩:=h1.slice;obtain⟨A2,n2,c2,rfl, -⟩:=h2.slice;obtain⟨A3,n3,c3,rfl, -⟩:=h3.slice;intro v hv;simp[AE]at hv;rcases hv with rfl|rfl|rfl|rfl|rfl|rfl|rfl|rfl|rfl|rfl|rfl<;>rfl
theorem J0 {ops:Array Oper} {rest:List Oper} {o:Oper} {a:Act} {Q:Exit→Act→World→Prop} (hgd:o.guard=none) (s x:Operand)
  (ho:o.op= .call { callee:= .builtin .append,args:=#[s,x],argTypes:=#[27,27] })
  {wr w3:World} {B0 M:Nat} {es:List Ex} {rows:List (List Value)} {e:Ex} {v v1 v2 v3:Value} {c:Nat} (hs:a.eval s=v) (hx:a.eval x= .slice (some ⟨w3.heap.size,0,none⟩) 1 c) (hc:1≤c)
  (hM:BJ wr M 29 11 v rows) (hT:CL wr (J6 B0 M v wr.heap.size) es rows) (hB:B0≤M) (hM2:M≤wr.heap.size) (g3:A5 wr w3) (he:AW w3 (CW B0 wr.heap.size w3.heap.size) e (AE e v1 v2 v3)) (hn:es.length<1099511627)
  (h:∀A n c w6,Hid (∃rows',BJ w6 M 29 11 (.slice A n c) rows'∧CL w6 (J6 B0 M (.slice A n c) w6.heap.size) (es++[e]) rows'∧AC (fun i=>M≤i) wr w6)→wpList Tryz.prog ops Q rest (a.put o.dst (.slice A n c)) w6):
  wpList Tryz.prog ops Q (o::rest) a (w3.alloc (.cells (List.foldl (fun(cs:Array Value) (x:Value×Nat)=>cs.setIfInBounds x.snd x.fst) #[.int .i64 0,.int .i64 0,.int .i64 0,.int .i64 0,.int .i64 0,.int .i64 0,.int .i64 0,.string ⟨#[]⟩,.slice none 0 0,.slice none 0 0,.slice none 0 0] (AE e v1 v2 v3).zipIdx) 29)):=by
 rw[RU];have hM3:=hM.grew g3;refine PR R6 hgd s x ho hs (hM3.alloc _) w3.heap.size c (AE e v1 v2 v3) 29 hx hc (Sc w3 29 _) rfl (Al he) (by rw[hT.1];exact hn) (by have:=g3.size;simp;omega) ?_;intro r cap w6 hM6 hk6 hr6 hbr6 hlr6;exact h _ _ _ _ (S9 ⟨_,hM6,hT.step hM hB hM2 g3 he hk6 hr6,Sb ((g3.keeps (S:=fun i=>M≤i)).alloc _) hk6 fun i hi e=>(hM3.lt i e).1⟩)
theorem Jo {P:Program} {ops:Array Oper} {rest:List Oper} {o:Oper} {a:Act} {Q:Exit→Act→World→Prop} {w:World} (T:TypeId) (l c:Operand) (_:o.op= .makeSlice T l c) (h:wpList P ops Q (o::rest) a w):wpList P ops Q (o::rest) a w:=h
theorem Lv {ops:Array Oper} {rest:List Oper} {o:Oper} {a:Act} {Q:Exit→Act→World→Prop} {w:World} (hgd:o.guard=none) (l c:Operand) (ho:o.op= .makeSlice 27 l c) (n:Nat) (hl:a.eval l= .int .i64 0) (hc:a.eval c= .int .i64 (n:Nat)) (hn:n≤1000000)
  (h:∀w',BJ w' w.heap.size 29 11 (.slice (some ⟨w.heap.size,0,none⟩) 0 n) []→A5 w w'→wpList Tryz.prog ops Q rest (a.put o.dst (.slice (some ⟨w.heap.size,0,none⟩) 0 n)) w'):wpList Tryz.prog ops Q (o::rest) a w:=by
 obtain⟨i,hi,hz,hs,hby⟩:=info_parts R6.info;refine wpList_make_own w hgd l c 27 ho w.heap.size 29 i F6 11 Tryz.underlying27 hi hz hs .i64 .i64 n n hl hc rfl (by rw[hby];omega) (by unfold maxLen;omega) (SD _) fun w' h1 h2=>h w' ⟨h1,by intro r hr;cases hr⟩ ((Se _ w).grown h2 fun k e _=>by cases e)
theorem I8 (e:Ex) (ks:List Ex) (a b c:Value):AE (e.withKids ks) a b c=AE e a b c:=by cases e;rfl
end Go.Proofs.YthpflelgbadkcaaGreatDoor
namespace Go.Proofs.YthpflelgbadkcaaGreatDoor
open Go
section
variable {P:Program} {ops:Array Oper} {Q:Exit→Act→World→Prop} {md:Region.Mode} {Gs:List (Nat×(World→Prop))}
def BV (Gs:List (Nat×(World→Prop))) (listed:Array Bool) (w:World):Prop:=∀p∈Gs,listed.getD p.1 false=false→p.2 w
def B6 (md:Region.Mode) (ops:Array Oper) (listed:Array Bool):Prop:=
 ∀j oj,ops[j]? =some oj→listed.getD j false=true→∀e∈oj.after,Region.binds md e=true→listed.getD e.on false=true
theorem B6.start (n:Nat):B6 md ops (Array.replicate n false):=fun j oj _ hl=>by
 rw[getD_replicate_false]at hl;cases hl
theorem B6.set {i:Nat} {listed:Array Bool} (h:B6 md ops listed) (hi:i∈Region.ready md ops listed):B6 md ops (listed.setIfInBounds i true):=fun j oj hj hl e he hb=>by
 obtain⟨_,oi,hoi,hall⟩:=mem_ready.1 hi;by_cases hij:i=j
 ·subst hij;have:oj=oi:=SI (hj.symm.trans hoi);subst this;exact getD_set_true (hall e he hb)
 rw[getD_set_ne false hij]at hl;exact getD_set_true (h j oj hj hl e he hb)
theorem B6.before {i s:Nat} {listed:Array Bool} (h:B6 md ops listed) (hun:listed.getD i true=false) (hw:Region.waitsFor md ops s i=true):listed.getD s false=false:=by
 obtain⟨oj,hoj,e,he,hb,hon⟩:=Region.waitsFor_spec hw;cases hl:listed.getD s false with
 |false=>rfl
 |true=>
  have h2:=h s oj hoj hl e he hb;rw[hon,getD_both hun]at h2;cases h2
theorem B6.before' {i s:Nat} {listed:Array Bool} (h:B6 md ops listed) (hun:listed.getD i false=false) (hw:Region.waitsFor md ops s i=true):listed.getD s false=false:=by
 obtain⟨oj,hoj,e,he,hb,hon⟩:=Region.waitsFor_spec hw;cases hl:listed.getD s false with
 |false=>rfl
 |true=>
  have h2:=h s oj hoj hl e he hb;rw[hon,hun]at h2;cases h2
def Ij (md:Region.Mode) (ops:Array Oper):List Nat→Bool
 |a::b::r=>Region.waitsFor md ops a b&&Ij md ops (b::r)
 |_=>true
theorem B6.path {i:Nat} {listed:Array Bool} (h:B6 md ops listed) (hun:listed.getD i false=false):∀(mid:List Nat) (s:Nat),Ij md ops (s::(mid++[i]))=true→listed.getD s false=false
 |[],s,hw=>h.before' hun (by simpa[Ij]using hw)
 |k::mid,s,hw=>by
  simp only[List.cons_append,Ij,Bool.and_eq_true]at hw;exact h.before' (h.path hun mid k hw.2) hw.1
def Pz (md:Region.Mode) (ops:Array Oper) (Gs:List (Nat×(World→Prop))) (i:Nat) (w:World):Prop:=∃l,B6 md ops l∧l.getD i true=false∧BV Gs l w
def Bf (P:Program) (md:Region.Mode) (ops:Array Oper) (Q:Exit→Act→World→Prop) (Gs:List (Nat×(World→Prop))):Nat→Array Bool→Act→World→Prop
 |0,listed,a,w=>Region.ready md ops listed=[]∧Q .normal a w
 |fuel+1,listed,a,w=>
  (Region.ready md ops listed=[]→Q .normal a w)∧
  ∀i∈Region.ready md ops listed,wpOp P ops Q i (fun a' w'=>BV Gs (listed.setIfInBounds i true) w'∧Bf P md ops Q Gs fuel (listed.setIfInBounds i true) a' w') a w
theorem Ik:∀(fuel:Nat) (listed:Array Bool) (a:Act) (w:World),Bf P md ops Q Gs fuel listed a w→wpAny P md ops Q fuel listed a w
 |0,_,_,_,h=>h
 |fuel+1,_,_,_,h=>⟨h.1,fun i hi=>wpOp_mono (fun a' w' h'=>Ik fuel _ a' w' h'.2) (h.2 i hi)⟩
theorem BV.set {i:Nat} {l:Array Bool} {w:World} (hne:∀p∈Gs,p.1≠i):BV Gs (l.setIfInBounds i true) w↔BV Gs l w:=by
 unfold BV;constructor
 ·intro h p hp hl;exact h p hp (by rw[getD_set_ne false (Ne.symm (hne p hp))];exact hl)
 intro h p hp hl;exact h p hp (by rw[getD_set_ne false (Ne.symm (hne p hp))]at hl;exact hl)
theorem Dd {i:Nat} {oi:Oper} {v:Value} (hi:ops[i]? =some oi) (hsel:∀(j:Nat) (o:Oper) cs b,ops[j]? =some o→o.op≠.select cs b)
  (hQ:∀c a w,Q (.panic c) (a.put oi.dst v) w→Q (.panic c) a w) (hne:∀p∈Gs,p.1≠i):
  ∀(fuel:Nat) (listed:Array Bool) (a:Act) (w:World),B6 md ops listed→
   (∀j oj,ops[j]? =some oj→j≠i→listed.getD j true=false→(∀e∈oj.after,Region.binds md e=true→e.on≠i)→oi.apart ops oj=true)→
   i∈Region.ready md ops listed→YieldsIf P ops (Pz md ops Gs i) oi v a→BV Gs listed w→
   Bf P md ops Q Gs fuel (listed.setIfInBounds i true) (a.put oi.dst v) w→Bf P md ops Q Gs (fuel+1) listed a w:=by
 intro fuel
 induction fuel with
 |zero=>
  intro listed a w hcl _ hr hy hS H;refine⟨fun h=>(by rw[h]at hr;cases hr),fun j hj=>?_⟩;by_cases hji:j=i
  ·subst hji;exact hy.wpOp hi ⟨listed,hcl,(mem_ready.1 hr).1,hS⟩ ⟨(BV.set hne).2 hS,H⟩
  have:=ready_mono hj hji;rw[H.1]at this;cases this
 |succ fuel ih=>
  intro listed a w hcl hfree hr hy hS H;refine⟨fun h=>(by rw[h]at hr;cases hr),fun j hj=>?_⟩;by_cases hji:j=i
  ·subst hji;exact hy.wpOp hi ⟨listed,hcl,(mem_ready.1 hr).1,hS⟩ ⟨(BV.set hne).2 hS,H⟩
  have h1:=H.2 j (ready_mono hj hji);obtain⟨hjun,oj,hoj,hall⟩:=mem_ready.1 hj;have hnot:∀e∈oj.after,Region.binds md e=true→e.on≠i:=fun e he hb heq=>by
   have h1:=hall e he hb;rw[heq,getD_both (mem_ready.1 hr).1]at h1;cases h1
  have h2:=wpOp_putIf hoj (hfree j oj hoj hji hjun hnot) (fun cs b=>hsel i oi cs b hi) (fun cs b=>hsel j oj cs b hoj) hQ hy h1;have hfree':∀k ok,ops[k]? =some ok→k≠i→(listed.setIfInBounds j true).getD k true=false→
    (∀e∈ok.after,Region.binds md e=true→e.on≠i)→oi.apart ops ok=true:=fun k ok hk hki hun hno=>by
   refine hfree k ok hk hki ?_ hno;by_cases hjk:j=k
   ·subst hjk;exact hjun
   rw[getD_set_ne true hjk]at hun;exact hun
  refine wpOp_mono (fun a' w' h3=>?_) h2;obtain⟨h4,h5,h6⟩:=h3;rw[Array.setIfInBounds_comm _ _ (Ne.symm hji)]at h5 h6;have h7:=(BV.set hne).1 h5;exact⟨h7,ih (listed.setIfInBounds j true) a' w' (hcl.set hj) hfree' (ready_mono hr (Ne.symm hji)) h4 h7 h6⟩
theorem FW {i:Nat} (h:(Gs.map (·.1)).contains i=false):∀p∈Gs,p.1≠i:=fun p hp e=>by
 have:(Gs.map (·.1)).contains i=true:=by
  rw[List.contains_iff_mem];exact List.mem_map.2 ⟨p,hp,e⟩
 rw[h]at this;cases this
theorem B1 {i:Nat} {oi:Oper} {v:Value} {fuel:Nat} {listed:Array Bool} {a:Act} {w:World} (hi:ops[i]? =some oi)
  (hs:Region.noSelect ops=true) (hf:Region.free md ops listed i=true) (hr:(Region.ready md ops listed).contains i=true) (hcl:B6 md ops listed) (hK:BV Gs listed w) (hne':(Gs.map (·.1)).contains i=false)
  (hQ:∀c a w,Q (.panic c) (a.put oi.dst v) w→Q (.panic c) a w) (hgd:oi.guard=none) (hy:∀w,(execOp a.eval oi).run P w= .ok (.value v) w)
  (h:B6 md ops (listed.setIfInBounds i true)→BV Gs (listed.setIfInBounds i true) w→Bf P md ops Q Gs fuel (listed.setIfInBounds i true) (a.put oi.dst v) w):Bf P md ops Q Gs (fuel+1) listed a w:=by
 have hr':i∈Region.ready md ops listed:=by simpa using hr
 have hne:=FW hne';exact Dd hi (Region.noSelect_spec hs) hQ hne fuel listed a w hcl (Region.free_spec hi hf) hr' (.inl ⟨by simp[Region.wanted,hgd],fun w _=>hy w⟩) hK (h (hcl.set hr') ((BV.set hne).2 hK))
theorem D7 (s:Nat) (A:World→Prop) {i:Nat} {oi:Oper} {v:Value} {fuel:Nat} {listed:Array Bool} {a:Act} {w:World} (hi:ops[i]? =some oi)
  (hs:Region.noSelect ops=true) (hf:Region.free md ops listed i=true) (hr:(Region.ready md ops listed).contains i=true) (hcl:B6 md ops listed) (hK:BV Gs listed w) (hne':(Gs.map (·.1)).contains i=false)
  (k:Nat) (hm':Gs[k]? =some (s,A)) (hw:Region.waitsFor md ops s i=true)
  (hQ:∀c a w,Q (.panic c) (a.put oi.dst v) w→Q (.panic c) a w) (hgd:oi.guard=none) (hy:∀w,A w→(execOp a.eval oi).run P w= .ok (.value v) w)
  (h:B6 md ops (listed.setIfInBounds i true)→BV Gs (listed.setIfInBounds i true) w→Bf P md ops Q Gs fuel (listed.setIfInBounds i true) (a.put oi.dst v) w):Bf P md ops Q Gs (fuel+1) listed a w:=by
 have hr':i∈Region.ready md ops listed:=by simpa using hr
 have hne:=FW hne';exact Dd hi (Region.noSelect_spec hs) hQ hne fuel listed a w hcl (Region.free_spec hi hf) hr' (.inl ⟨by simp[Region.wanted,hgd],fun w ⟨l,h1,h2,h3⟩=>hy w (h3 _ (SN hm') (h1.before h2 hw))⟩) hK (h (hcl.set hr') ((BV.set hne).2 hK))
theorem Fq (mid:List Nat) (s:Nat) (A:World→Prop) {i:Nat} {oi:Oper} {v:Value} {fuel:Nat} {listed:Array Bool} {a:Act} {w:World} (hi:ops[i]? =some oi)
  (hs:Region.noSelect ops=true) (hf:Region.free md ops listed i=true) (hr:(Region.ready md ops listed).contains i=true) (hcl:B6 md ops listed) (hK:BV Gs listed w) (hne':(Gs.map (·.1)).contains i=false)
  (k:Nat) (hm':Gs[k]? =some (s,A)) (hw:Ij md ops (s::(mid++[i]))=true)
  (hQ:∀c a w,Q (.panic c) (a.put oi.dst v) w→Q (.panic c) a w) (hgd:oi.guard=none) (hy:∀w,A w→(execOp a.eval oi).run P w= .ok (.value v) w)
  (h:B6 md ops (listed.setIfInBounds i true)→BV Gs (listed.setIfInBounds i true) w→Bf P md ops Q Gs fuel (listed.setIfInBounds i true) (a.put oi.dst v) w):Bf P md ops Q Gs (fuel+1) listed a w:=by
 have hr':i∈Region.ready md ops listed:=by simpa using hr
 have hne:=FW hne';exact Dd hi (Region.noSelect_spec hs) hQ hne fuel listed a w hcl (Region.free_spec hi hf) hr' (.inl ⟨by simp[Region.wanted,hgd],fun w ⟨l,h1,h2,h3⟩=>hy w (h3 _ (SN hm') (h1.path (getD_both h2) mid s hw))⟩) hK (h (hcl.set hr') ((BV.set hne).2 hK))
theorem Ae (s:Nat) (A:World→Prop) {i:Nat} {oi:Oper} {fuel:Nat} {listed:Array Bool} {a:Act} {w:World} (hi:ops[i]? =some oi)
  (hs:Region.noSelect ops=true) (hf:Region.free md ops listed i=true) (hr:(Region.ready md ops listed).contains i=true) (hcl:B6 md ops listed) (hK:BV Gs listed w) (hne':(Gs.map (·.1)).contains i=false)
  (k:Nat) (hm':Gs[k]? =some (s,A)) (hw:Region.waitsFor md ops s i=true) (ty:TypeId) (x:Operand) (ho:oi.op= .load ty x) (b o:Nat) (hx:a.eval x= .pointer (some ⟨b,o,none⟩)) (cs:List Value) (d:TypeDesc) (hS:∀w,A w→w.rangeAt b o cs)
  (hu:P.underlying ty=some d) (hd:d.isRow=true) (hin:(P.info? ty).map (·.size)=some cs.length)
  (hQ:∀c a w,Q (.panic c) (a.put oi.dst (.agg cs.toArray)) w→Q (.panic c) a w) (hgd:oi.guard=none)
  (h:B6 md ops (listed.setIfInBounds i true)→BV Gs (listed.setIfInBounds i true) w→Bf P md ops Q Gs fuel (listed.setIfInBounds i true) (a.put oi.dst (.agg cs.toArray)) w):Bf P md ops Q Gs (fuel+1) listed a w:=
 D7 s A hi hs hf hr hcl hK hne' k hm' hw hQ hgd (fun w' hA=>by
  unfold execOp;simp only[ho,hx,Instr.loadAt,Instr.sureAddr,Sem.run_bind,Sem.run_pure,Result.andThen_ok,run_loadVar_mid w' b o ty cs d (hS w' hA) hu hd hin]) h
theorem B6.one {i:Nat} {listed:Array Bool} (h:B6 md ops listed) (hr:Region.ready md ops listed=[i]):B6 md ops (listed.setIfInBounds i true):=h.set (by rw[hr];simp)
theorem AV {i:Nat} {oi:Oper} {fuel:Nat} {listed:Array Bool} {a:Act} {w:World} (hcl:B6 md ops listed) (hr:Region.ready md ops listed=[i]) (hi:ops[i]? =some oi) (hgd:oi.guard=none)
  (h:∀K:Act→World→Prop,(∀a' w',BV Gs (listed.setIfInBounds i true) w'→(B6 md ops (listed.setIfInBounds i true)→BV Gs (listed.setIfInBounds i true) w'→Bf P md ops Q Gs fuel (listed.setIfInBounds i true) a' w')→K a' w')→oi.wp P a w K Q):Bf P md ops Q Gs (fuel+1) listed a w:=by
 refine⟨(fun h0=>by rw[hr]at h0;cases h0),fun j hj=>?_⟩;have hj':=hj;rw[hr]at hj;have:j=i:=by simpa using hj
 subst this;unfold wpOp;simp only[hi,Region.wanted,hgd,if_true];exact .inl (h _ fun a' w' h1 h2=>⟨h1,h2 (hcl.set hj') h1⟩)
theorem AJ {s1:Nat} {A:World→Prop} {l:Array Bool} {w:World} (h1:l.getD s1 false=true∨A w):BV [(s1,A)] l w:=by
 intro p hp hl;obtain rfl:=SJ.1 hp;rcases h1 with h|h
 ·rw[h]at hl;cases hl
 exact h
theorem Fd {s1 s2:Nat} {A B:World→Prop} {l:Array Bool} {w:World} (h1:l.getD s1 false=true∨A w) (h2:l.getD s2 false=true∨B w):BV [(s1,A),(s2,B)] l w:=by
 intro p hp hl;rcases List.mem_cons.1 hp with rfl|hp
 ·rcases h1 with h|h
  ·rw[h]at hl;cases hl
  exact h
 obtain rfl:=SJ.1 hp;rcases h2 with h|h
 ·rw[h]at hl;cases hl
 exact h
theorem BK {listed:Array Bool} {a:Act} {w:World} (hr:Region.ready md ops listed=[]) (h:Q .normal a w):∀fuel,Bf P md ops Q Gs fuel listed a w
 |0=>⟨hr,h⟩
 |_+1=>⟨fun _=>h,by rw[hr];simp⟩
theorem B8 (Gs:List (Nat×(World→Prop))) {id:Nat} {a:Act} {w:World} (hm:P.follows .mixedOrders=true) (hK:∀p∈Gs,p.2 w.drew)
  (h:B6 .any ops (Array.replicate ops.size false)→BV Gs (Array.replicate ops.size false) w.drew→Bf P .any ops Q Gs ops.size (Array.replicate ops.size false) a w.drew):(Code.region id ops true).wp P Q a w:=
 wp_region_any hm (Ik _ _ _ _ (h (B6.start _) (fun p hp _=>hK p hp)))
end
section
variable {P:Program} {ops:Array Oper} {Q:Exit→Act→World→Prop} {md:Region.Mode} {Gs:List (Nat×(World→Prop))}
def YC (P:Program) (ops:Array Oper) (S:World→Prop) (o:Oper) (v:Value) (f:FuncId) (args:Array Value) (a:Act):Prop:=
 Region.wanted o (yielded ops a.tmps)=true∧(∀w,S w→(execOp a.eval o).run P w= .ok (.enter f args) w)∧∀w,S w→Calls P f args w fun e w'=>e= .returned v∧w'=w
variable {f:FuncId} {args:Array Value}
theorem YC.wpOp {S:World→Prop} {i:Nat} {o:Oper} {v:Value} {a:Act} (hi:ops[i]? =some o) (hy:YC P ops S o v f args a)
  {K:Act→World→Prop} {w:World} (hS:S w) (h:K (a.put o.dst v) w):wpOp P ops Q i K a w:=by
 unfold Go.wpOp;simp only[hi];obtain⟨hw,hv,hc⟩:=hy;simp only[hw,if_true,Oper.wp,hv w hS,Oper.upon];refine .inl ((hc w hS).mono fun e w' he=>?_);obtain⟨rfl,rfl⟩:=he;exact h
end
end Go.Proofs.YthpflelgbadkcaaGreatDoor
namespace Go.Proofs.YthpflelgbadkcaaGreatDoor
open Go.RowKit Pl
def MG (ls:List ByteArray) (s:ByteArray):Int:=match ls.findIdx? fun a=>a.toList==s.toList with
 |some j=>(j:Nat)
 |none=> -1
theorem Q9 {ls:List ByteArray} {s a:ByteArray} {j:Nat} (h:ls[j]? =some a) (he:(a.toList==s.toList)=true) (hn:∀(i:Nat) (a:ByteArray),i<j→ls[i]? =some a→(a.toList==s.toList)=false):MG ls s=(j:Nat):=by
 have hj:=(SK.1 h).1;have:ls.findIdx? (fun a=>a.toList==s.toList)=some j:=by
  rw[List.findIdx?_eq_some_iff_getElem];refine⟨hj,?_,fun i hi=>?_⟩
  ·rw[(SK.1 h).2];exact he
  rw[hn i _ hi (SF (by omega))];simp
 unfold MG;rw[this]
theorem NX {ls:List ByteArray} {s:ByteArray} (hn:∀(i:Nat) (a:ByteArray),ls[i]? =some a→(a.toList==s.toList)=false):MG ls s= -1:=by
 have:ls.findIdx? (fun a=>a.toList==s.toList)=none:=by
  rw[List.findIdx?_eq_none_iff];intro a ha;obtain⟨i,hi⟩:=List.getElem?_of_mem ha;exact hn i a hi
 unfold MG;rw[this]
theorem LW (v:Value) (ls:List ByteArray) (s:ByteArray) (w:World) (h:Ch w w.heap.size 1 v (ls.map fun s=>[Value.string s])) (hl:ls.length≤1000000):Calls Tryz.prog 122 #[v,.string s] w (fun e w'=>e= .returned (.int .i64 (MG ls s))∧w'=w):=by
 obtain⟨A,c,rfl,hc,hx⟩:=h;rw[List.length_map]at hc hx ⊢;obtain⟨n,hn⟩:∃n,ls.length=n:=⟨_,rfl⟩;rw[hn]at hc hx hl ⊢;have HN:=S9 hn;have HX:=S9 hx;clear hn hx;go_enter Tryz.func122,Tryz.ntmps122;go_wp2_with fail;go_loopw [5,8] (fun _ i wr=>∃(j:Nat),j≤n∧(i= .int .i64 (j:Nat)∧w=wr)∧∀(i:Nat) (a:ByteArray),i<j→ls[i]? =some a→(a.toList==s.toList)=false) (fun _ i _=>n-(intOf i).toNat)
 case atStart=>exact⟨0,by omega,⟨rfl,rfl⟩,fun i a h _=>by omega⟩
 case round=>
  obtain⟨j,hj,⟨rfl,rfl⟩,hinv⟩:=hrel;have HI:=S9 hinv;clear hinv;by_cases hlt:j<n
  ·obtain⟨b,o,rfl,hb,hcell⟩:=HX.out (by omega);obtain⟨a,ha⟩:∃a,ls[j]? =some a:=⟨_,SF (by rw[HN.out];exact hlt)⟩;have hcl:w.cell? ⟨b,o+j,none⟩=some (.string a):=by
    have:=hcell j [.string a] (by rw[List.getElem?_map,ha];rfl) 0 _ rfl;rw[Nat.mul_one]at this;exact this
   have HA:=S9 ha;clear ha hcell;by_cases he:a.toList=s.toList
   ·have t1:(a.toList==s.toList)=true:=by rw[SG];exact he
    have t2:(s.toList==a.toList)=true:=by rw[SG];exact he.symm
    have HF:=S9 (Q9 HA.out t1 HI.out);clear he;go_wp2_with fail;go_ret;exact⟨by rw[HF.out];rfl,rfl⟩
   have t1:(a.toList==s.toList)=false:=by rw[SA];exact he
   have t2:(s.toList==a.toList)=false:=by rw[SA];exact fun h=>he h.symm
   have HC:=S9 (show ∀(i:Nat) (a:ByteArray),i<j+1→ls[i]? =some a→(a.toList==s.toList)=false from fun i a' hi ha'=>by
    by_cases hij:i=j
    ·subst hij;rw[HA.out]at ha';obtain rfl:=SI ha';exact t1
    exact HI.out i a' (by omega) ha')
   clear he;go_wp2_with fail;go_roundw
   case rel=>exact⟨j+1,by omega,⟨by go_num,by simp⟩,HC.out⟩
   case measure=>simp[intOf];omega
  have HF:=S9 (NX (ls:=ls) (s:=s) fun i a h=>HI.out i a (by have:=(SK.1 h).1;have:=HN.out;omega) h);obtain rfl:j=n:=by omega
  go_wp2_with fail;go_ret;exact⟨by rw[HF.out];rfl,rfl⟩
def KI (w:World):Prop:=5<w.heap.size∧∀j s,Np[j]? =some s→w.cell? ⟨5,j,none⟩=some (.string s)
theorem KI.keep {S:Nat→Prop} {w w':World} (h:KI w) (g:AC S w w') (hs:¬S 5):KI w':=⟨SE h.1 g.size,fun j s hj=>(World.cell?_of_block (a:=⟨5,j,none⟩) (g.block _ h.1 hs)).trans (h.2 j s hj)⟩
theorem KI.rd {w:World} (h:KI w):Ch w w.heap.size 1 (.slice (some ⟨5,0,none⟩) 8 8) (Np.map fun s=>[Value.string s]):=by
 refine⟨_,8,rfl,by decide,fun _=>⟨_,0,rfl,h.1,fun j cs hj k u hk=>?_⟩⟩;rw[Nat.zero_add,Nat.mul_one];rw[List.getElem?_map]at hj;obtain⟨x,hx,rfl⟩:=Option.map_eq_some_iff.1 hj;obtain⟨rfl,rfl⟩:k=0∧Value.string x=u:=by
  cases k with
  |zero=>exact⟨rfl,by simpa using hk⟩
  |succ k=>simp at hk
 exact h.2 j x hx
def RS:List ByteArray:=[⟨#[61]⟩,⟨#[33,61]⟩,⟨#[94,61]⟩]
def Gg (f:Nat):ByteArray:=RS[f]?.getD ⟨#[]⟩
def NN (w:World):Prop:=4<w.heap.size∧∀j s,RS[j]? =some s→w.cell? ⟨4,j,none⟩=some (.string s)
def Dc (w:World):Prop:=1<w.heap.size∧(∀j s,Rm[j]? =some s→w.cell? ⟨1,j,none⟩=some (.string s))∧NN w
theorem NN.keep {S:Nat→Prop} {w w':World} (h:NN w) (g:AC S w w') (hs:¬S 4):NN w':=⟨SE h.1 g.size,fun j s hj=>(World.cell?_of_block (a:=⟨4,j,none⟩) (g.block _ h.1 hs)).trans (h.2 j s hj)⟩
theorem Dc.keep {S:Nat→Prop} {w w':World} (h:Dc w) (g:AC S w w') (hs:¬S 1) (hs2:¬S 4:=by first|exact(fun h=>h)|omega):Dc w':=⟨SE h.1 g.size,fun j s hj=>(World.cell?_of_block (a:=⟨1,j,none⟩) (g.block _ h.1 hs)).trans (h.2.1 j s hj),h.2.2.keep g hs2⟩
def Ga (f wd:Int) (name:ByteArray):List Value:=[.int .i64 1,.int .i64 f,.int .i64 wd,.int .i64 0,.int .i64 0,.int .i64 0,.int .i64 0,.string name,.slice none 0 0,.slice none 0 0,.slice none 0 0]
theorem OF (w:World) (g z:Nat) (n:Int) (name:ByteArray) (ts us:List C3) (f wd:Nat) (h:D4 w g n ts) (hz:Ag w z 29 (Ga 0 0 name).toArray) (hgz:g<z) (hft:KI w) (hfz:5<g) (hf:N9 ts=some (f,wd,us)):
  Calls Tryz.prog 167 #[.pointer (some ⟨g,0,none⟩),.pointer (some ⟨z,0,none⟩)] w fun e w'=>e= .returned (.tuple #[])∧D4 w' g n us∧Ag w' z 29 (Ga (f:Nat) (wd:Nat) name).toArray∧AC (fun i=>i=g∨i=z) w w':=by
 rcases ts with _|⟨⟨tk,tt,tn,tf⟩,ts⟩
 ·cases hf
 simp only[N9]at hf;by_cases hk0:tk=0
 ·subst hk0;rw[SR rfl]at hf;cases hx:Np.findIdx? (fun a=>a.toList==tt.toList)with
  |none=>rw[hx]at hf;cases hf
  |some q=>
   rw[hx]at hf;dsimp only at hf;have hq:MG Np tt=(q:Nat):=by unfold MG;rw[hx]
   have hq8:q<8:=by
    have:=(List.findIdx?_eq_some_iff_getElem.1 hx).1;exact this
   have HK:=S9 (show ∀w',D4 w' g n (⟨0,tt,tn,tf⟩::ts)→Calls Tryz.prog 156 #[.pointer (some ⟨g,0,none⟩),.int .i64 0] w' (fun e w''=>e= .returned (.bool true)∧w''=w')from fun w' h=>Fc w' g n (⟨0,tt,tn,tf⟩::ts) 0 h);have HI:=S9 (show ∀w',KI w'→Calls Tryz.prog 122 #[.slice (some ⟨5,0,none⟩) 8 8,.string tt] w' (fun e w''=>e= .returned (.int .i64 (q:Nat))∧w''=w')from fun w' h=>by have h1:=LW _ Np tt w' h.rd (by decide);rwa[hq]at h1);obtain⟨A,m,c,hb,hr,hl⟩:=id h;obtain⟨b,o,rfl, -, -,k0,k1, -⟩:=Ii hr;rw[List.length_cons]at hl;obtain⟨m',hm'⟩:∃m',ts.length=m':=⟨_,rfl⟩;rw[hm']at hl;subst hl;have c0:w.cell? ⟨g,0,none⟩=some (.slice (some ⟨b,o,none⟩) (m'+1) c):=hb.cell 0;have k0:w.cell? ⟨b,o,none⟩=some (.int .i64 0):=k0;have k1:w.cell? ⟨b,o+1,none⟩=some (.string tt):=k1;have f1:w.frozen? ⟨z,1,none⟩=false:=hz.frozen 1;have z1:w.cell? ⟨z,1,none⟩=some (.int .i64 0):=hz.cell 1;have HP:=S9 h;have HZ:=S9 hz;have HF:=S9 hft;have HFF:=S9 hf;clear h hz hft hf hx hq hb hr hm';go_enter Tryz.func167,Tryz.ntmps167;go_upto_region 1 with(go_at_call 156;(with_reducible refine(HK.out _ HP.out).mono ?_);rintro e3 w3 ⟨rfl,rfl⟩);refine wp_region_still_tail 12 (by kernel_rfl) (by kernel_rfl) ?_;simp only[List.take_succ_cons,List.take_zero,List.drop_succ_cons,List.drop_zero]
   repeat still_step
   still_call (HI.out w3.drew (HF.out.keep (Sd (Se (fun _=>False) w3)) (fun h=>h)))
   repeat still_step
   refine wpStill_nil ?_;change wpList _ _ _ _ _ w3.drew;go_upto_region 2 with fail;have hb4:Ag (w3.setCell ⟨z,1,none⟩ (.int .i64 (q:Nat))).drew z 29 (Ga (q:Nat) 0 name).toArray:=(HZ.out.set_ 1 _:Ag _ _ _ _).drew;have k4:AC (fun i=>i=z) w3 (w3.setCell ⟨z,1,none⟩ (.int .i64 (q:Nat))).drew:=Sd (Sf (S:=fun i=>i=z) (p:=⟨z,1,none⟩) (Se _ w3) (.inl rfl) _);generalize (w3.setCell ⟨z,1,none⟩ (.int .i64 (q:Nat))).drew=w4 at*;have hp4:=HP.out.keep k4 (fun i hi e=>by omega);have z1':w4.cell? ⟨z,1,none⟩=some (.int .i64 (q:Nat)):=hb4.cell 1;have HP4:=S9 hp4;have HB4:=S9 hb4;have HK4:=S9 k4;have HT:=S9 (EO w4 g n ⟨0,tt,tn,tf⟩ ts hp4);clear hb4 k4 hp4 c0 k0 k1 f1;have tq:decide ((q:Int)<0)=false:=by rw[decide_eq_false_iff_not];omega
   by_cases hq0:q=0
   ·subst hq0;have hff:=HFF.out;rw[SR rfl]at hff;simp only[SW,SV]at hff;obtain⟨rfl,rfl,rfl⟩:=hff;go_wp2_with(first|(go_at_call 156;(with_reducible refine(HK.out _ HP4.out).mono ?_);rintro e3 w3' ⟨rfl,rfl⟩)|(go_at_call 155;(with_reducible refine HT.out.mono ?_);rintro e3 w5 ⟨rfl,hp5,hk5⟩;have hb5:=HB4.out.keep hk5 (by omega);have z5:w5.cell? ⟨z,1,none⟩=some (.int .i64 0):=hb5.cell 1;have HR5:=S9 (SC hp5 (SC hk5 hb5));clear hp5 hk5 hb5));refine bodyPost_ret (results_none rfl _ _ _) rfl ?_;exact⟨rfl,HR5.out.1,HR5.out.2.2,Sb (AC.mono HK4.out fun _ _ e=> .inr e) HR5.out.2.1 fun _ _ e=> .inl e⟩
   have hff:=HFF.out;rw[SQ hq0]at hff;have tq0:((q:Int)==0)=false:=by rw[SA];omega
   by_cases hq7:q=7
   ·rw[SR hq7]at hff;cases hff
   rw[SQ hq7]at hff;have tq7:((q:Int)==7)=false:=by rw[SA];omega
   by_cases hs1:F3 ts 3 ⟨#[40]⟩=true
   ·rw[SR hs1]at hff;obtain⟨ta,tb,rfl⟩:=DL hs1;rw[List.tail_cons]at hff;rcases tb with _|⟨⟨tck,tct,tcn,tcf⟩,td⟩
    ·cases hff
    dsimp only at hff;by_cases hcond:tck=1∧1≤tcn∧tcn≤4096∧F3 td 3 ⟨#[41]⟩=true
    ·rw[SR hcond]at hff;simp only[SW,SV]at hff;obtain⟨rfl,rfl,hus⟩:=hff;obtain⟨hc1,hc2,hc3,hc4⟩:=hcond;obtain⟨te,tg,rfl⟩:=DL hc4;obtain rfl:tg=us:=hus;have HS1:=S9 (fun w' h=>IH w' g n ta (⟨tck,tct,tcn,tcf⟩::te::tg) ⟨#[40]⟩ h hs1);have HN:=S9 (show ∀w',D4 w' g n (⟨tck,tct,tcn,tcf⟩::te::tg)→Calls Tryz.prog 164 #[.pointer (some ⟨g,0,none⟩),.int .i64 1,.int .i64 4096] w' (fun e w''=>e= .returned (.int .i64 (tcn:Nat))∧D4 w'' g n (te::tg)∧Dr g w' w'')from fun w' h=>Pa w' g n ⟨tck,tct,tcn,tcf⟩ (te::tg) 1 4096 h hc1 (by show(1:Int)≤(tcn:Int);omega) (by show(tcn:Int)≤4096;omega));have HS2:=S9 (fun w' h=>IH w' g n te tg ⟨#[41]⟩ h hc4);clear hc1 hc2 hc3 hc4 hs1 hq0 hq7 HFF;go_upto_region 8 with(first|(go_at_call 156;(with_reducible refine(HK.out _ HP4.out).mono ?_);rintro e3 w3' ⟨rfl,rfl⟩)|(go_at_call 155;(with_reducible refine HT.out.mono ?_);rintro e3 w5 ⟨rfl,hp5,hk5⟩;have hb5:=HB4.out.keep hk5 (by omega);have z5:w5.cell? ⟨z,1,none⟩=some (.int .i64 (q:Nat)):=hb5.cell 1;have HR5:=S9 (SC hp5 (SC hk5 hb5));clear hp5 hk5 hb5)|(go_at_call 157;(with_reducible refine(HS1.out _ HR5.out.1).mono ?_);rintro e3 w6 ⟨rfl,hp6,hk6⟩;have HR6:=S9 (SC hp6 (SC hk6 (HR5.out.2.2.keep hk6 (by omega))));clear hp6 hk6)|(go_at_call 164;(with_reducible refine(HN.out _ HR6.out.1).mono ?_);rintro e3 w7 ⟨rfl,hp7,hk7⟩;have hb7:=HR6.out.2.2.keep hk7 (by omega);have z7:w7.cell? ⟨z,2,none⟩=some (.int .i64 0):=hb7.cell 2;have f7:w7.frozen? ⟨z,2,none⟩=false:=hb7.frozen 2;have HR7:=S9 (SC hp7 (SC hk7 hb7));clear hp7 hk7 hb7));have hb8:Ag (w7.setCell ⟨z,2,none⟩ (.int .i64 (tcn:Nat))) z 29 (Ga (q:Nat) (tcn:Nat) name).toArray:=HR7.out.2.2.set_ 2 _;have k8:AC (fun i=>i=z) w7 (w7.setCell ⟨z,2,none⟩ (.int .i64 (tcn:Nat))):=Sf (S:=fun i=>i=z) (p:=⟨z,2,none⟩) (Se _ w7) (.inl rfl) _;generalize w7.setCell ⟨z,2,none⟩ (.int .i64 (tcn:Nat))=w8 at*;have hp8:=HR7.out.1.keep k8 (fun i hi e=>by omega);have z8:w8.cell? ⟨z,1,none⟩=some (.int .i64 (q:Nat)):=hb8.cell 1;have HR8:=S9 (SC hp8 (SC k8 hb8));clear hp8 k8 hb8;go_wp2_with(go_at_call 157;(with_reducible refine(HS2.out _ HR8.out.1).mono ?_);rintro e3 w9 ⟨rfl,hp9,hk9⟩);go_end0;have kA:AC (fun i=>i=g∨i=z) w3 w7:=Sb (Sb (Sb (AC.mono HK4.out fun _ _ e=> .inr e) HR5.out.2.1 fun _ _ e=> .inl e) HR6.out.2.1 fun _ _ e=> .inl e) HR7.out.2.1 fun _ _ e=> .inl e
     exact⟨rfl,hp9,HR8.out.2.2.keep hk9 (by omega),Sb (Sb kA HR8.out.2.1 fun _ _ e=> .inr e) hk9 fun _ _ e=> .inl e⟩
    rw[SQ hcond]at hff;cases hff
   rw[SQ hs1]at hff;cases hff
 rw[SQ hk0]at hf;cases hf
end Go.Proofs.YthpflelgbadkcaaGreatDoor
