/- What the card of the law stands on: RFoldT, SeqG, ShB, Mul64, Prod, FMul, Add64. -/
import Derived.Test.YthpflelgbadkcaaGreatDoorRewriteTypesP08
import Derived.Test.YthpflelgbadkcaaGreatDoorRewriteTypesP10
import Derived.Test.YthpflelgbadkcaaGreatDoorRewriteTypesP09
import Derived.Test.YthpflelgbadkcaaGreatDoorRewriteTypesP06
import Derived.Test.YthpflelgbadkcaaGreatDoorRewriteTypesP02
import Derived.Shelf.Bits.Mul64
import Derived.Test.YthpflelgbadkcaaGreatDoorRewriteTypesP01
import Derived.Test.YthpflelgbadkcaaGreatDoorRewriteTypesP03
import Derived.Shelf.Spec.BitsCarry
set_option maxRecDepth 100000
set_option maxHeartbeats 12800000
set_option linter.unusedVariables false
set_option linter.unusedSimpArgs false
namespace Go.Proofs.YthpflelgbadkcaaGreatDoor
open Go.RowKit Pl
theorem IG {w w5 w8:World} {B0 M:Nat} {e:Ex} {cs:List Value} (k8:AA (fun i=>i=w.heap.size+1) w5 w8) (hB:B0≤w.heap.size) (hM:w.heap.size+2≤M) (h:AZ w5 (DK B0 M w5.heap.size) e cs):AZ w8 (DK B0 w.heap.size w8.heap.size) e cs:=by
 have hsz:=k8.size;exact AZ.keep (S:=fun i=>i=w.heap.size+1) (fun b hb=>⟨hb.2,fun h=>by rcases hb.1 with h1|h1<;>omega,by rcases hb.1 with h1|h1;exact .inl h1;exact .inr (by omega),by have:=hb.2;omega⟩) k8 _ _ h
end Go.Proofs.YthpflelgbadkcaaGreatDoor
namespace Go.Proofs.YthpflelgbadkcaaGreatDoor
section
variable {P:Program} {ops:Array Oper} {Q:Exit→Act→World→Prop}
def L7 (l:List Oper) (t:Tmp):Bool:=l.all fun o=>o.dst !=some t
def KI (ops:Array Oper):List Oper→Bool
 |[]=>true
 |o::r=>(match o.guard with
   |none=>true
   |some (j,_)=>match ops[j]? with
    |some oj=>match oj.dst with
     |some t=>L7 (o::r) t
     |none=>true
    |none=>true)&&(o.op.operands.all fun x=>match x with
   | .tmp t=>L7 (o::r) t
   |_=>true)&&KI ops r
theorem free_spec {l:List Oper} {t:Tmp} (h:L7 l t=true):∀o∈l,o.dst≠some t:=fun o ho e=>by
 have:=List.all_eq_true.1 h o ho;rw[e]at this;simp at this
theorem Nw {G:Act} {w0:World} (T:∀w,A4 w0 w→Q .normal G w):∀(l:List Oper),KI ops l=true→(∀o∈l,∀cs b,o.op≠.select cs b)→BY P ops w0 G l→∀(a:Act) (w:World),
  (∀k,(∀o∈l,o.dst≠some k)→a.tmps[k]? =G.tmps[k]?)→a.tmps.size=G.tmps.size→a.defers=G.defers→A4 w0 w→wpList P ops Q l a w
 |[],_,_,_,a,w,hk,hs,hd,hg=>by
  have ht:a.tmps=G.tmps:=Array.ext_getElem? fun k=>hk k fun o ho=>by cases ho
  have:a=G:=by
   cases a;cases G;simp at ht hd;rw[ht,hd]
  subst this;unfold wpList;exact T w hg
 |o::r,hok,hns,hH,a,w,hk,hs,hd,hg=>by
  unfold KI at hok;simp only[Bool.and_eq_true]at hok;obtain⟨⟨hgd,hopr⟩,hok⟩:=hok;have slot:∀t,L7 (o::r) t=true→a.tmps[t]? =G.tmps[t]? :=fun t h=>hk t (free_spec h)
  have hwt:Region.wanted o (yielded ops a.tmps)=Region.wanted o (yielded ops G.tmps):=by
   unfold Region.wanted;cases hg:o.guard with
   |none=>rfl
   |some p=>
    obtain⟨j,b⟩:=p;rw[hg]at hgd;simp only at hgd ⊢;have:yielded ops a.tmps j=yielded ops G.tmps j:=by
     unfold yielded;cases hoj:ops[j]? with
     |none=>rfl
     |some oj=>
      rw[hoj]at hgd;simp only at hgd;cases hdj:oj.dst with
      |none=>simp[hdj]
      |some t=>
       rw[hdj]at hgd;simp only[Option.bind_some,hdj];rw[slot t hgd]
    rw[this]
  have key:∀v w',(G.put o.dst v=G)→A4 w w'→wpList P ops Q r (a.put o.dst v) w':=fun v w' hv hgr=>by
   refine Nw T r hok (fun o' ho'=>hns o' (List.mem_cons_of_mem _ ho')) hH.2 _ _ (fun k hkk=>?_) ?_ ?_ (hg.trans hgr)
   ·cases hdo:o.dst with
    |none=>
     refine hk k fun o' ho'=>?_
     rcases List.mem_cons.1 ho' with rfl|ho'
     ·rw[hdo];simp
     exact hkk o' ho'
    |some d=>
     rw[hdo]at hv;rw[C0];by_cases hdk:d=k
     ·subst hdk;rw[VN rfl];have h1:(G.put (some d) v).tmps[d]? =G.tmps[d]? :=by rw[hv]
      rw[C0,VN rfl]at h1;rw[←h1,hs]
     rw[VM hdk];refine hk k fun o' ho'=>?_
     rcases List.mem_cons.1 ho' with rfl|ho'
     ·rw[hdo];simpa using hdk
     exact hkk o' ho'
   ·cases o.dst with
    |none=>exact hs
    |some d=>simp only[Act.put,Array.size_setIfInBounds];exact hs
   cases o.dst with
   |none=>exact hd
   |some d=>exact hd
  refine wpList_step fun K hK=>?_
  rw[hwt];obtain⟨hst1,hst2⟩:=hH.1;cases hww:Region.wanted o (yielded ops G.tmps)with
  |true=>
   rw[VN rfl];have h1:=Cv (Q:=Q) (K:=K) (a:=a) (fun cs b=>hns o List.mem_cons_self cs b) (hst1 hww w hg) (fun x hx=>?_) fun v w' hv hgr=>hK _ _ (key v w' hv hgr)
   ·exact h1
   cases x with
   |tmp t=>
    have h1:=Array.all_eq_true'.1 hopr _ hx;simp only[Act.eval,Array.getD_eq_getD_getElem?,slot t h1]
   |_=>rfl
  |false=>
   rw[VM (by simp)];exact hK _ _ (key undef w (hst2 hww) (VU _))
theorem To {l:List Oper} {a:Act} {w:World} (vals:List Value) (G:Act) (hok:KI ops l=true) (hns:(l.all fun o=>match o.op with| .select _ _=>false|_=>true)=true)
  (hG:G=Af l vals a) (hH:BY P ops w G l) (h:∀w1,A4 w w1→Q .normal G w1):wpList P ops Q l a w:=by
 refine Nw h l hok (fun o ho cs b e=>?_) hH a w (fun k hk=>?_) ?_ ?_ (VU _)
 ·have:=List.all_eq_true.1 hns o ho;rw[e]at this;cases this
 ·rw[hG];exact(CR _ _ _ k hk).symm
 ·rw[hG];exact(BD _ _ _).1.symm
 rw[hG];exact(BD _ _ _).2.symm
theorem CY {id:Nat} {a:Act} {w:World} (vals:List Value) (G:Act) (hok:KI ops ops.toList=true) (hns:(ops.toList.all fun o=>match o.op with| .select _ _=>false|_=>true)=true)
  (hG:G=Af ops.toList vals a) (hH:BY P ops w G ops.toList) (h:∀w1,A4 w w1→Q .normal G w1):(Code.region id ops false).wp P Q a w:=by
 refine wp_region ?_;have h1:=To (Q:=Q) vals G hok hns hG hH h;rw[←wpOps_eq_wpList ops.toList 0 (fun j=>by simp)]at h1;rw[List.range_eq_range'];simpa using h1
theorem IL {o:Oper} {a:Act} {w:World} {K:Act→World→Prop} (T:TypeId) (x:Operand) {b k:Nat} {v:Value} (hl:∀(w:World) (v:Value),w.cell? ⟨b,k,none⟩=some v→(loadVar T ⟨b,k,none⟩).run P w= .ok v w) (ho:o.op= .load T x) (hx:a.eval x= .pointer (some ⟨b,k,none⟩)) (hc:w.cell? ⟨b,k,none⟩=some v) (hK:K (a.put o.dst v) w):o.wp P a w K Q:=by
 unfold Oper.wp execOp;simp only[ho,hx,Instr.loadAt,Instr.sureAddr,Sem.run_bind,Sem.run_pure,Result.andThen_ok,hl w v hc];exact hK
end
end Go.Proofs.YthpflelgbadkcaaGreatDoor
namespace Go.Proofs.YthpflelgbadkcaaGreatDoor
open Go.RowKit
section
variable {P:Program} {ops:Array Oper} {Q:Exit→Act→World→Prop} {w0:World} {G:Act} {o:Oper} {r:List Oper}
theorem hS (h2:BY P ops w0 G r) (hw:Region.wanted o (yielded ops G.tmps)=false:=by kernel_rfl) (h:G.put o.dst undef=G:=by kernel_rfl):BY P ops w0 G (o::r):=BS hw h h2
theorem hP (h2:BY P ops w0 G r) (hw:Region.wanted o (yielded ops G.tmps)=true:=by kernel_rfl) (h:∀w,A4 w0 w→o.wp P G w (fun a' w'=>a'=G∧A4 w w') (fun _ _ _=>False):=by intro w' hg;go_simp;exact VU _):BY P ops w0 G (o::r):=AD hw h h2
theorem hR (h:∀w,A4 w0 w→o.wp P G w (fun a' w'=>a'=G∧A4 w w') (fun _ _ _=>False)) (h2:BY P ops w0 G r) (hw:Region.wanted o (yielded ops G.tmps)=true:=by kernel_rfl):BY P ops w0 G (o::r):=AD hw h h2
theorem AP {id:Nat} {a:Act} {w:World} (vals:List Value) (hH:BY P ops w (Af ops.toList vals a) ops.toList) (h:∀w1,A4 w w1→Q .normal (Af ops.toList vals a) w1) (hok:KI ops ops.toList=true:=by kernel_rfl) (hns:(ops.toList.all fun o=>match o.op with| .select _ _=>false|_=>true)=true:=by kernel_rfl):(Code.region id ops false).wp P Q a w:=CY vals _ hok hns rfl hH h
end
theorem nf:(∀(α:Type) (l:List α) (i:Nat) (h:i<l.toArray.size),l.toArray[i]=l[i]'(by simpa using h))∧(∀(α:Type) (x:α) (l:List α) (h:0<(x::l).length),(x::l)[0]=x)∧(∀(α:Type) (x:α) (l:List α) (i:Nat) (h:i+1<(x::l).length),(x::l)[i+1]=l[i]'(Nat.lt_of_succ_lt_succ h))∧
  (∀(t:Array Value) (ds) (d:Nat) (v:Value),Act.put ⟨t,ds⟩ (some d) v=⟨t.setIfInBounds d v,ds⟩)∧(∀(a:Act) (v:Value),a.put none v=a)∧
  (∀(l:List Value) (i:Nat) (v:Value),l.toArray.setIfInBounds i v=(l.set i v).toArray)∧(∀(x y:Value) (l:List Value),(x::l).set 0 y=y::l)∧(∀(x y:Value) (l:List Value) (n:Nat),(x::l).set (n+1) y=x::l.set n y):=by
 refine⟨?_,?_,?_,?_,?_,?_,?_,?_⟩<;>intros<;>first|rfl|simp
theorem nz:(∀l:List Oper,l.toArray.toList=l)∧(∀l k:List Oper,l.append k=l++k)∧(∀(o:Oper) (l k:List Oper),o::l++k=o::(l++k))∧(∀l:List Oper,[]++l=l)∧(∀(o:Oper) (os:List Oper) (v:Value) (vs:List Value) (a:Act),Af (o::os) (v::vs) a=Af os vs (a.put o.dst v))∧(∀a:Act,Af [] [] a=a)∧
  (∀(t:Array Value) (ds) (d:Nat) (v:Value),Act.put ⟨t,ds⟩ (some d) v=⟨t.setIfInBounds d v,ds⟩)∧(∀(a:Act) (v:Value),a.put none v=a)∧
  (∀(l:List Value) (i:Nat) (v:Value),l.toArray.setIfInBounds i v=(l.set i v).toArray)∧(∀(x y:Value) (l:List Value),(x::l).set 0 y=y::l)∧(∀(x y:Value) (l:List Value) (n:Nat),(x::l).set (n+1) y=x::l.set n y):=by
 refine⟨?_,?_,?_,?_,?_,?_,?_,?_,?_,?_,?_⟩<;>intros<;>first|rfl|simp
theorem ny:(∀l:List Oper,l.toArray.toList=l)∧(∀(n:Nat) (o:Oper) (os:List Oper),(o::os).take (n+1)=o::os.take n)∧(∀os:List Oper,os.take 0=[])∧(∀(o:Oper) (os:List Oper) (v:Value) (vs:List Value) (a:Act),Af (o::os) (v::vs) a=Af os vs (a.put o.dst v))∧(∀a:Act,Af [] [] a=a)∧
  (∀(t:Array Value) (ds) (d:Nat) (v:Value),Act.put ⟨t,ds⟩ (some d) v=⟨t.setIfInBounds d v,ds⟩)∧(∀(a:Act) (v:Value),a.put none v=a)∧
  (∀(l:List Value) (i:Nat) (v:Value),l.toArray.setIfInBounds i v=(l.set i v).toArray)∧(∀(x y:Value) (l:List Value),(x::l).set 0 y=y::l)∧(∀(x y:Value) (l:List Value) (n:Nat),(x::l).set (n+1) y=x::l.set n y):=by
 refine⟨?_,?_,?_,?_,?_,?_,?_,?_,?_,?_⟩<;>intros<;>first|rfl|simp
section
variable {P:Program} {ops:Array Oper} {w0:World} {G:Act} {o:Oper} {r:List Oper} {T:TypeId} {x:Operand} {b k:Nat} {v:Value}
theorem UM {a:Act} {w:World} {Q:Exit→Act→World→Prop} (hc:w.cell? ⟨b,k,none⟩=some v) (ho:o.op= .load T x) (hl:∀(w:World) (v:Value),w.cell? ⟨b,k,none⟩=some v→(loadVar T ⟨b,k,none⟩).run P w= .ok v w) (hx:a.eval x= .pointer (some ⟨b,k,none⟩)) (hG:a.put o.dst v=a):o.wp P a w (fun a' w'=>a'=a∧A4 w w') Q:=by
 unfold Oper.wp execOp;simp only[ho,hx,Instr.loadAt,Instr.sureAddr,Sem.run_bind,Sem.run_pure,Result.andThen_ok,hl w v hc];exact⟨hG,VU _⟩
theorem hE (hc:∀w',A4 w0 w'→w'.cell? ⟨b,k,none⟩=some v) (h2:BY P ops w0 G r) (ho:o.op= .load T x:=by exact rfl) (hx:G.eval x= .pointer (some ⟨b,k,none⟩):=by kernel_rfl) (hl:∀(w:World) (v:Value),w.cell? ⟨b,k,none⟩=some v→(loadVar T ⟨b,k,none⟩).run P w= .ok v w:=by intro w v h;simp[go_sem,h]) (hG:G.put o.dst v=G:=by kernel_rfl) (hw:Region.wanted o (yielded ops G.tmps)=true:=by kernel_rfl):BY P ops w0 G (o::r):=
 AD hw (fun w' hg=>UM (hc w' hg) ho hl hx hG) h2
theorem hL {t:TypeId} {cs:Array Value} (k:Nat) (hb:∀w',A4 w0 w'→AR w' b t cs) (h2:BY P ops w0 G r) (ho:o.op= .load T x:=by exact rfl) (hx:G.eval x= .pointer (some ⟨b,k,none⟩):=by kernel_rfl) (hv:cs[k]? =some v:=by exact rfl) (hl:∀(w:World) (v:Value),w.cell? ⟨b,k,none⟩=some v→(loadVar T ⟨b,k,none⟩).run P w= .ok v w:=by intro w v h;simp[go_sem,h]) (hG:G.put o.dst v=G:=by kernel_rfl) (hw:Region.wanted o (yielded ops G.tmps)=true:=by kernel_rfl):BY P ops w0 G (o::r):=
 AD hw (fun w' hg=>UM (((hb w' hg).cell k).trans hv) ho hl hx hG) h2
theorem Si {a:Act} {w:World} {Q:Exit→Act→World→Prop} {f:FuncId} {args:Array Value} (hc:Calls P f args w fun e w'=>e= .returned v∧A4 w w') (he:(execOp a.eval o).run P w= .ok (.enter f args) w) (hG:a.put o.dst v=a):o.wp P a w (fun a' w'=>a'=a∧A4 w w') Q:=by
 unfold Oper.wp;simp only[he,Oper.upon];refine hc.mono fun e w' h=>?_
 obtain⟨rfl,k⟩:=h;exact⟨hG,k⟩
theorem hK {f:FuncId} {args:Array Value} (hc:∀w',A4 w0 w'→Calls P f args w' fun e w''=>e= .returned v∧A4 w' w'') (h2:BY P ops w0 G r) (he:∀w,(execOp G.eval o).run P w= .ok (.enter f args) w:=by intro w;go_simp;try with_reducible rfl) (hG:G.put o.dst v=G:=by kernel_rfl) (hw:Region.wanted o (yielded ops G.tmps)=true:=by kernel_rfl):BY P ops w0 G (o::r):=
 AD hw (fun w' hg=>Si (hc w' hg) (he w') hG) h2
end
section
variable {P:Program} {w0:World} {ia:Option Nat} {i:Nat} {G:Nat→Act} {o:Oper} {r:List Oper} {T:TypeId} {x:Operand} {b k:Nat} {v:Value}
theorem Uy (hc:∀w',A4 w0 w'→w'.cell? ⟨b,k,none⟩=some v) (h2:Cu P w0 ia G (i+1) r) (ho:o.op= .load T x:=by exact rfl) (hx:∀z,(G z).eval x= .pointer (some ⟨b,k,none⟩):=by intro z;kernel_rfl) (hl:∀(w:World) (v:Value),w.cell? ⟨b,k,none⟩=some v→(loadVar T ⟨b,k,none⟩).run P w= .ok v w:=by intro w v h;simp[go_sem,h]) (hG:∀z,(G z).put o.dst v=G z:=by intro z;kernel_rfl):Cu P w0 ia G i (o::r):=
 AN (fun z w' hg=>UM (hc w' hg) ho hl (hx z) (hG z)) h2
theorem UT {f:FuncId} {args:Array Value} (hc:∀w',A4 w0 w'→Calls P f args w' fun e w''=>e= .returned v∧A4 w' w'') (h2:Cu P w0 ia G (i+1) r) (he:∀z w,(execOp (G z).eval o).run P w= .ok (.enter f args) w:=by intro z w;go_simp;try with_reducible rfl) (hG:∀z,(G z).put o.dst v=G z:=by intro z;kernel_rfl):Cu P w0 ia G i (o::r):=
 AN (fun z w' hg=>Si (hc w' hg) (he z w') (hG z)) h2
end
section
variable {ops:Array Oper} {w0:World} {ia:Option Nat} {i:Nat} {F:Nat→Act} {G:Act} {o:Oper} {r:List Oper} {T:TypeId} {x:Operand} {b k n:Nat} {vs:List Value} {t:TypeId}
theorem hM (hm:∀w',A4 w0 w'→w'.rangeAt b k vs) (hr:Lf T n) (h2:BY Tryz.prog ops w0 G r) (ho:o.op= .load T x:=by exact rfl) (hl:vs.length=n:=by exact rfl) (hx:G.eval x= .pointer (some ⟨b,k,none⟩):=by kernel_rfl) (hG:G.put o.dst (.agg vs.toArray)=G:=by kernel_rfl) (hw:Region.wanted o (yielded ops G.tmps)=true:=by kernel_rfl):BY Tryz.prog ops w0 G (o::r):=
 AD hw (fun w' hg=>mM x (hm w' hg) hr ⟨hG,VU _⟩ ho hl hx) h2
theorem hN (hb:∀w',A4 w0 w'→AR w' b t vs.toArray) (hr:Lf T n) (h2:BY Tryz.prog ops w0 G r) (ho:o.op= .load T x:=by exact rfl) (hl:vs.length=n:=by exact rfl) (hx:G.eval x= .pointer (some ⟨b,0,none⟩):=by kernel_rfl) (hG:G.put o.dst (.agg vs.toArray)=G:=by kernel_rfl) (hw:Region.wanted o (yielded ops G.tmps)=true:=by kernel_rfl):BY Tryz.prog ops w0 G (o::r):=
 AD hw (fun w' hg=>UX x (hb w' hg) hr ⟨hG,VU _⟩ ho hl hx) h2
theorem Ux (hm:∀w',A4 w0 w'→w'.rangeAt b k vs) (hr:Lf T n) (h2:Cu Tryz.prog w0 ia F (i+1) r) (ho:o.op= .load T x:=by exact rfl) (hl:vs.length=n:=by exact rfl) (hx:∀z,(F z).eval x= .pointer (some ⟨b,k,none⟩):=by intro z;kernel_rfl) (hG:∀z,(F z).put o.dst (.agg vs.toArray)=F z:=by intro z;kernel_rfl):Cu Tryz.prog w0 ia F i (o::r):=
 AN (fun z w' hg=>mM x (hm w' hg) hr ⟨hG z,VU _⟩ ho hl (hx z)) h2
theorem V0 (hb:∀w',A4 w0 w'→AR w' b t vs.toArray) (hr:Lf T n) (h2:Cu Tryz.prog w0 ia F (i+1) r) (ho:o.op= .load T x:=by exact rfl) (hl:vs.length=n:=by exact rfl) (hx:∀z,(F z).eval x= .pointer (some ⟨b,0,none⟩):=by intro z;kernel_rfl) (hG:∀z,(F z).put o.dst (.agg vs.toArray)=F z:=by intro z;kernel_rfl):Cu Tryz.prog w0 ia F i (o::r):=
 AN (fun z w' hg=>UX x (hb w' hg) hr ⟨hG z,VU _⟩ ho hl (hx z)) h2
end
section
variable {P:Program} {w0:World} {ia:Option Nat} {s i:Nat} {pures:List Nat} {G:Nat→Act} {o:Oper} {r:List Oper}
theorem hQ (h2:Cu P w0 ia G (i+1) r) (h:∀z w,A4 w0 w→o.wp P (G z) w (fun a' w'=>a'=G z∧A4 w w') (fun _ _ _=>False):=by intro z w' hg;go_simp;exact VU _):Cu P w0 ia G i (o::r):=AN h h2
theorem hV (h2:C5 P w0 ia s pures G (i+1) r) (h:∀z w,A4 w0 w→o.wp P (G z) w (fun a' w'=>a'=G z∧A4 w w') (fun _ _ _=>False):=by intro z w' hg;go_simp;exact VU _) (hp:pures.contains i=false:=by decide):C5 P w0 ia s pures G i (o::r):=AX hp h h2
theorem hW (h:∀z w,A4 w0 w→o.wp P (G z) w (fun a' w'=>a'=G z∧A4 w w') (fun _ _ _=>False)) (h2:C5 P w0 ia s pures G (i+1) r) (hp:pures.contains i=false:=by decide):C5 P w0 ia s pures G i (o::r):=AX hp h h2
theorem hU (h2:C5 P w0 ia s pures G (i+1) r) (h:∀z w,o.wp P (G z) w (fun a' w'=>a'=G z∧w'=w) (fun _ _ _=>False):=by intro z w';go_simp) (hp:pures.contains i=true:=by decide):C5 P w0 ia s pures G i (o::r):=CJ hp h h2
theorem hA (h2:C5 P w0 (some i) s pures G (i+1) r) (hp:pures.contains i=false:=by decide):C5 P w0 (some i) s pures G i (o::r):=Dl hp h2
theorem hB (h2:C5 P w0 ia i pures G (i+1) r) (hp:pures.contains i=false:=by decide):C5 P w0 ia i pures G i (o::r):=Dj hp h2
end
end Go.Proofs.YthpflelgbadkcaaGreatDoor
namespace Go.Proofs.YthpflelgbadkcaaGreatDoor
open Go.Shelf Go.RowKit Pl
def P8:Go.Shelf.Ren:=⟨fun|264=>118|n=>n,fun|46=>194|53=>123|148=>172|n=>n,fun|n=>n⟩
theorem TA:Go.Proofs.Lays.n264 Tryz.prog P8:={
 mixed:=by kernel_rfl
 f264:=Tryz.func118.trans (congrArg some (by kernel_rfl))
 t46:=Tryz.underlying194
 a46:=Tryz.isAgg194
 z46:=Tryz.sizeOf194
 v46:=Tryz.zeroValue194
 t53:=Tryz.underlying123
 a53:=Tryz.isAgg123
 z53:=Tryz.sizeOf123
 v53:=Tryz.zeroValue123 }
theorem KU (x y:Nat) (hx:x<18446744073709551616) (hy:y<18446744073709551616) (w:World):
  Calls Tryz.prog 118 #[.int .u64 (x:Nat),.int .u64 (y:Nat)] w fun e w'=>e= .returned (.tuple #[.int .u64 ((x*y/18446744073709551616:Nat):Int),.int .u64 ((x*y%18446744073709551616:Nat):Int)])∧w'=w:=
 Go.Proofs.Any.bits_Mul64 TA x y hx hy w
end Go.Proofs.YthpflelgbadkcaaGreatDoor
namespace Go.Proofs.YthpflelgbadkcaaGreatDoor
open Go.RowKit Pl
theorem K6 (n:Nat) (h:n<18446744073709551616):IntKind.u64.wrap (n:Int)=(n:Int):=by
 show(n:Int)%2^64=(n:Int);omega
theorem FN {fn:Func} {p:Tmp} {ty:TypeId} (h:fn.results=#[.cell p ty]) {tmps:Array Value} {w:World} {g:Nat} {vs:List Value} {t:TypeId} (hp:tmps.getD p undef= .pointer (some ⟨g,0,none⟩)) (hT:(Tryz.prog.info? ty).map (·.size)=some vs.length) {d:TypeDesc} (hu:Tryz.prog.underlying ty=some d) (hd:d.isRow=true) (hb:AR w g t vs.toArray):
  (results fn tmps).run Tryz.prog w= .ok (.agg vs.toArray) w:=by
 have hl:=run_loadVar_mid (P:=Tryz.prog) w g 0 ty vs d (hb.rangeN 0 vs (by simp)) hu hd hT;simp only[results,h];rw[Array.getD_eq_getD_getElem?]at hp;simp[hp,hl,asAddr]
def B5 (z:Int):List Value:=[.int .u64 ((z.natAbs/18446744073709551616:Nat):Int),.int .u64 ((z.natAbs%18446744073709551616:Nat):Int),.bool (decide (z<0))]
theorem P0 {a b:Int} (h:¬a*b=0):(decide (a<0) !=decide (b<0))=decide (a*b<0):=by
 have ha:a≠0:=fun e=>h (by rw[e,Int.zero_mul])
 have hb:b≠0:=fun e=>h (by rw[e,Int.mul_zero])
 rcases Int.lt_or_gt_of_ne ha with h1|h1<;>rcases Int.lt_or_gt_of_ne hb with h2|h2
 ·have:0<a*b:=Int.mul_pos_of_neg_of_neg h1 h2;simp[h1,h2];omega
 ·have:a*b<0:=Int.mul_neg_of_neg_of_pos h1 h2;simp[h1,this];omega
 ·have:a*b<0:=Int.mul_neg_of_pos_of_neg h1 h2;simp[h2,this];omega
 have:0<a*b:=Int.mul_pos h1 h2;simp[Int.not_lt.mpr (Int.le_of_lt h1),Int.not_lt.mpr (Int.le_of_lt h2)];omega
theorem EJ (a b:Int) (w:World) (ha: -9223372036854775808<a) (ha2:a≤9223372036854775807) (hb: -9223372036854775808<b) (hb2:b≤9223372036854775807):
  Calls Tryz.prog 120 #[.int .i64 a,.int .i64 b] w fun e w'=>e= .returned (.agg (B5 (a*b)).toArray)∧A4 w w':=by
 have hbx:=VW w 169 #[.int .u64 0,.int .u64 0,.bool false];have HG:=V3 ((VU w).alloc (.cells #[.int .u64 0,.int .u64 0,.bool false] 169));have HA:=V3 (fun w'=>Hj a w' (by omega) (by omega));have HB:=V3 (fun w'=>Hj b w' (by omega) (by omega));have hp:a.natAbs*b.natAbs=(a*b).natAbs:=(Int.natAbs_mul a b).symm;have hm:=fun w'=>KU a.natAbs b.natAbs (by omega) (by omega) w'
 obtain⟨hi,hhi⟩:∃hi:Nat,(a*b).natAbs/18446744073709551616=hi:=⟨_,rfl⟩;obtain⟨lo,hlo⟩:∃lo:Nat,(a*b).natAbs%18446744073709551616=lo:=⟨_,rfl⟩;simp only[hp,hhi,hlo]at hm;have HM:=V3 hm;have HI:=V3 hhi;have HL:=V3 hlo;clear hp hm hhi hlo;have wa:IntKind.u64.wrap ((a.natAbs:Nat):Int)=((a.natAbs:Nat):Int):=K6 _ (by omega);have wb:IntKind.u64.wrap ((b.natAbs:Nat):Int)=((b.natAbs:Nat):Int):=K6 _ (by omega);go_enter Tryz.func120,Tryz.ntmps120;go_upto_region 1 with fail;generalize w.alloc (.cells #[.int .u64 0,.int .u64 0,.bool false] 169)=w1 at*;go_upto_region 2 with(first|(go_at_call 119;refine(HA.out _).mono ?_;rintro e w' ⟨rfl,hw⟩;rw[hw];clear hw)|(go_at_call 119;refine(HB.out _).mono ?_;rintro e w' ⟨rfl,hw⟩;rw[hw];clear hw)|(go_at_call 118;refine(HM.out _).mono ?_;rintro e w' ⟨rfl,hw⟩;rw[hw];clear hw));clear wa wb;have hhi:=HI.out;have hlo:=HL.out;by_cases h0:a*b=0
 ·obtain rfl:hi=0:=by rw[h0]at hhi;exact hhi.symm
  obtain rfl:lo=0:=by rw[h0]at hlo;exact hlo.symm
  clear hhi hlo HI HL;have H0:=V3 h0;clear h0;go_wp2_with(refine BL 169 (.tmp 4) (.tmp 23) w.heap.size [.int .u64 0,.int .u64 0,.bool false] [.int .u64 0,.int .u64 0,.bool false] 169 (by kernel_rfl) rfl (by intro v hv;simp at hv;rcases hv with rfl|rfl<;>rfl) rfl rfl rfl rfl hbx ?_;intro w3 bx3 k3 d3;have r3:=bx3.rangeN 0 [.int .u64 0,.int .u64 0,.bool false] (by simp));refine bodyPost_ret (v:= .agg (B5 0).toArray) (FN rfl rfl (by kernel_rfl) Tryz.underlying169 rfl bx3) rfl ?_;rw[H0.out];exact⟨rfl,VV HG.out k3 (fun i hi e=>by omega)⟩
 have HN:=V3 (P0 h0);have hz:(a*b).natAbs≠0:=by omega
 have HW:Hid (B5 (a*b)=[.int .u64 (hi:Nat),.int .u64 (lo:Nat),.bool (decide (a*b<0))]):=V3 (by unfold B5;rw[hhi,hlo]);generalize (a*b).natAbs=z at*;clear h0;obtain⟨sa,hsa⟩:∃s:Bool,decide (a<0)=s:=⟨_,rfl⟩;obtain⟨sb,hsb⟩:∃s:Bool,decide (b<0)=s:=⟨_,rfl⟩;rw[hsa,hsb]at HN;by_cases h1:hi=0
 ·have t1:((hi:Int)==0)=true:=by rw[VC];omega
  have t2:((lo:Int)==0)=false:=by rw[V4];omega
  clear h1 hhi hlo;go_wp2_with(refine BL 169 (.tmp 4) (.tmp 31) w.heap.size [.int .u64 (hi:Nat),.int .u64 (lo:Nat),.bool (sa !=sb)] [.int .u64 0,.int .u64 0,.bool false] 169 (by kernel_rfl) rfl (by intro v hv;simp at hv;rcases hv with rfl|rfl|rfl<;>rfl) rfl rfl rfl rfl hbx ?_;intro w3 bx3 k3 d3);refine bodyPost_ret (FN rfl rfl (by kernel_rfl) Tryz.underlying169 rfl bx3) rfl ?_;rw[HW.out,←HN.out];exact⟨rfl,VV HG.out k3 (fun i hi e=>by omega)⟩
 have t1:((hi:Int)==0)=false:=by rw[V4];omega
 clear h1 hhi hlo;go_wp2_with(refine BL 169 (.tmp 4) (.tmp 31) w.heap.size [.int .u64 (hi:Nat),.int .u64 (lo:Nat),.bool (sa !=sb)] [.int .u64 0,.int .u64 0,.bool false] 169 (by kernel_rfl) rfl (by intro v hv;simp at hv;rcases hv with rfl|rfl|rfl<;>rfl) rfl rfl rfl rfl hbx ?_;intro w3 bx3 k3 d3);refine bodyPost_ret (FN rfl rfl (by kernel_rfl) Tryz.underlying169 rfl bx3) rfl ?_;rw[HW.out,←HN.out];exact⟨rfl,VV HG.out k3 (fun i hi e=>by omega)⟩
theorem DZ (n d:Int) (w:World) (hn:BI n) (hd:BI d):Calls Tryz.prog 92 #[.agg (AI n d).toArray] w fun e w'=>e= .returned (.bool (Al n d))∧A4 w w':=Jd n d w hn hd
theorem EI:(Tryz.prog.info? 169).map (·.size)=some 3:=by kernel_rfl
theorem rW:Lf 169 3:=⟨EI,_,Tryz.underlying169,rfl⟩
theorem GY (z:Int):∀v∈B5 z,v.oneCell'=true:=by
 intro v hv;simp[B5]at hv;rcases hv with rfl|rfl|rfl<;>rfl
theorem It (a:Int) (g:Nat) (hg:0<g):(a.tdiv (g:Int)).natAbs≤a.natAbs:=by
 rw[Int.natAbs_tdiv,Int.natAbs_natCast];exact Nat.div_le_self _ _
theorem JX (n1 d1 n2 d2:Int) (w:World) (hn1:BI n1) (hd1:BI d1) (hn2:BI n2) (hd2:BI d2):Calls Tryz.prog 83 #[.agg (AI n1 d1).toArray,.agg (AI n2 d2).toArray] w fun e w'=>e= .returned (FZ (EH n1 d1 n2 d2))∧A4 w w':=by
 obtain⟨hb1,hb2,hb3,hG3⟩:=Ci w 24 24 24 (AI n1 d1).toArray (AI n2 d2).toArray (AI 0 0).toArray;have HV1:=V3 (fun w'=>DZ n1 d1 w' hn1 hd1);have HV2:=V3 (fun w'=>DZ n2 d2 w' hn2 hd2);obtain⟨v1,hv1⟩:∃v:Bool,Al n1 d1=v:=⟨_,rfl⟩;obtain⟨v2,hv2⟩:∃v:Bool,Al n2 d2=v:=⟨_,rfl⟩;rw[hv1]at HV1;rw[hv2]at HV2;go_enter Tryz.func83,Tryz.ntmps83;go_upto_region 1 with fail;change Code.wp _ _ _ _ (((w.alloc (.cells (AI n1 d1).toArray 24)).alloc (.cells (AI n2 d2).toArray 24)).alloc (.cells (AI 0 0).toArray 24));generalize ((w.alloc (.cells (AI n1 d1).toArray 24)).alloc (.cells (AI n2 d2).toArray 24)).alloc (.cells (AI 0 0).toArray 24)=w3 at*;cases v1
 ·have HB:=V3 (MT (n2:=n2) (d2:=d2) (.inl hv1));clear hv1 hv2;go_upto_region 2 with(first|(refine lN (.tmp 2) hb1 rF ?_)|(go_at_call 92;(with_reducible refine(HV1.out _).mono ?_);rintro e w4 ⟨rfl,k4⟩;have hc1:=hb1.grew k4;have hc2:=hb2.grew k4;have hc3:=hb3.grew k4;have hG4:=hG3.trans k4)|fail);have he3:=hc3;have hG5:=hG4;go_wp2_with(first|(refine sN (.tmp 4) (.tmp 19) (AI 0 0) he3 rF ?_;intro w8 hb8 k8 d8)|fail);refine rT rF hb8 ?_;rw[HB.out];exact⟨rfl,VV hG5 k8 (fun i hi e=>by omega)⟩
 cases v2
 ·have HB:=V3 (MT (n1:=n1) (d1:=d1) (.inr hv2));clear hv1 hv2;go_upto_region 2 with(first|(refine lN (.tmp 2) hb1 rF ?_)|(refine QF rfl 24 Tryz.underlying24 rfl (.tmp 3) (w.heap.size+1) (AI n2 d2) 24 Ao rfl rfl hc2 ?_)|(go_at_call 92;(with_reducible refine(HV1.out _).mono ?_);rintro e w4 ⟨rfl,k4⟩;have hc1:=hb1.grew k4;have hc2:=hb2.grew k4;have hc3:=hb3.grew k4;have hG4:=hG3.trans k4)|(go_at_call 92;(with_reducible refine(HV2.out _).mono ?_);rintro e w5 ⟨rfl,k5⟩;have he1:=hc1.grew k5;have he2:=hc2.grew k5;have he3:=hc3.grew k5;have hG5:=hG4.trans k5)|fail);go_wp2_with(first|(refine sN (.tmp 4) (.tmp 19) (AI 0 0) he3 rF ?_;intro w8 hb8 k8 d8)|fail);refine rT rF hb8 ?_;rw[HB.out];exact⟨rfl,VV hG5 k8 (fun i hi e=>by omega)⟩
 go_upto_region 3 with(first|(refine lN (.tmp 2) hb1 rF ?_)|(refine QF rfl 24 Tryz.underlying24 rfl (.tmp 3) (w.heap.size+1) (AI n2 d2) 24 Ao rfl rfl hc2 ?_)|(go_at_call 92;(with_reducible refine(HV1.out _).mono ?_);rintro e w4 ⟨rfl,k4⟩;have hc1:=hb1.grew k4;have hc2:=hb2.grew k4;have hc3:=hb3.grew k4;have hG4:=hG3.trans k4)|(go_at_call 92;(with_reducible refine(HV2.out _).mono ?_);rintro e w5 ⟨rfl,k5⟩;have he1:=hc1.grew k5;have he2:=hc2.grew k5;have he3:=hc3.grew k5;have hG5:=hG4.trans k5)|fail);clear hb1 hb2 hb3 hG3 k4 hc1 hc2 hc3 hG4 k5 HV1 HV2;have HVV:=V3 (V5 hv1 hv2);obtain⟨a1,a2,a3,a4,a5⟩:=BT hv1;obtain⟨b1,b2,b3,b4,b5⟩:=BT hv2;clear hv1 hv2 a5 b5;obtain⟨p,rfl⟩:∃p:Nat,d1=(p:Int):=⟨d1.toNat,by omega⟩;obtain⟨q,rfl⟩:∃q:Nat,d2=(q:Int):=⟨d2.toNat,by omega⟩;have HMR:=V3 (SC HVV.out.1 HVV.out.2);simp only[Int.toNat_natCast]at HMR;have c1:w5.cell? ⟨w.heap.size,0,none⟩=some (.int .i64 n1):=he1.cell 0;have c2:w5.cell? ⟨w.heap.size,1,none⟩=some (.int .i64 (p:Int)):=he1.cell 1;have c3:w5.cell? ⟨w.heap.size+1,0,none⟩=some (.int .i64 n2):=he2.cell 0;have c4:w5.cell? ⟨w.heap.size+1,1,none⟩=some (.int .i64 (q:Int)):=he2.cell 1;have HA1:=V3 (fun w'=>Hj n1 w' (by omega) (by omega));have HA2:=V3 (fun w'=>Hj n2 w' (by omega) (by omega));have HG1:=V3 (fun w'=>Hr n1.natAbs q w' (by omega) (by omega));have HG2:=V3 (fun w'=>Hr n2.natAbs p w' (by omega) (by omega));have hg0:0<n1.natAbs.gcd q:=Nat.gcd_pos_of_pos_right _ (by omega);have hh0:0<n2.natAbs.gcd p:=Nat.gcd_pos_of_pos_right _ (by omega);generalize n1.natAbs.gcd q=g at*;generalize n2.natAbs.gcd p=h at*;go_upto_region 3 with fail;go_quiet ((first|(go_at_call 119;first|with_reducible exact Calls.quiet_of_same (HA1.out _)|with_reducible exact Calls.quiet_of_same (HA2.out _))|(go_at_call 113;first|with_reducible exact Calls.quiet_of (HG1.out _)|with_reducible exact Calls.quiet_of (HG2.out _))));have m1:=he1.drewN nq;have m2:=he2.drewN nq;have m3:=he3.drewN nq;have hG6:=Va hG5 nq;generalize w5.drewN nq=w6 at*;clear he1 he2 he3 hG5 c1 c2 c3 c4 HA1 HA2 HG1 HG2;have q0:¬(g:Int)=0:=by omega
 have q1:¬(h:Int)=0:=by omega
 have q2:¬g=0:=by omega
 have q3:¬h=0:=by omega
 have l1:=It n1 g hg0;have l2:=It n2 h hh0;have l3:=It (p:Int) h hh0;have l4:=It (q:Int) g hg0;have n3:0≤(p:Int).tdiv (h:Int):=Int.tdiv_nonneg (by omega) (by omega);have n4:0≤(q:Int).tdiv (g:Int):=Int.tdiv_nonneg (by omega) (by omega);generalize hx:n1.tdiv (g:Int)=x at*;generalize hy:n2.tdiv (h:Int)=y at*;generalize hs:(p:Int).tdiv (h:Int)=s at*;generalize ht:(q:Int).tdiv (g:Int)=t at*;have e1:IntKind.i64.wrap x=x:=IntWalk.i64_in _ (by omega);have e2:IntKind.i64.wrap y=y:=IntWalk.i64_in _ (by omega);have e3:IntKind.i64.wrap s=s:=IntWalk.i64_in _ (by omega);have e4:IntKind.i64.wrap t=t:=IntWalk.i64_in _ (by omega);have HP1:=V3 (fun w'=>EJ x y w' (by omega) (by omega) (by omega) (by omega));have HP2:=V3 (fun w'=>EJ s t w' (by omega) (by omega) (by omega) (by omega));have HD0:Hid (0≤s*t):=V3 (Int.mul_nonneg n3 n4);generalize x*y=N at*;generalize s*t=D at*;clear l1 l2 l3 l4 n3 n4 hg0 hh0 hn1 hn2 hd1 hd2 a1 a2 a3 a4 b1 b2 b3 b4;have HS:=V3 (show ∀w',A4 w6.drew w'→w'.cell? ⟨w.heap.size,0,none⟩=some (.int .i64 n1)∧w'.cell? ⟨w.heap.size,1,none⟩=some (.int .i64 (p:Int))∧w'.cell? ⟨w.heap.size+1,0,none⟩=some (.int .i64 n2)∧w'.cell? ⟨w.heap.size+1,1,none⟩=some (.int .i64 (q:Int))from fun w' g=>⟨((m1.drewN 1).grew g).cell 0,((m1.drewN 1).grew g).cell 1,((m2.drewN 1).grew g).cell 0,((m2.drewN 1).grew g).cell 1⟩);go_upto_region 4 with fail;refine Fr (by kernel_rfl) 10 9 8 [.pointer (some ⟨w.heap.size,0,none⟩),.int .i64 n1,.int .i64 (g:Int),.int .i64 x,.pointer (some ⟨w.heap.size+1,0,none⟩),.int .i64 n2,.int .i64 (h:Int),.int .i64 y,.agg (B5 N).toArray,undef] 169 [.int .u64 0,.int .u64 0,.bool false] _ (by kernel_rfl) (by kernel_rfl) (by decide) (by rfl) rfl (VH (by kernel_rfl)) (by kernel_rfl) ?hH1 ?hal1 (B5 N) (.tmp 8) (.tmp 40) 169 _ rfl rfl rfl rfl EI rfl (GY _) (fun z=>by kernel_rfl) (fun z=>by kernel_rfl) (by kernel_rfl) (by kernel_rfl) ?hT1
 case hH1=>
  simp only[ny];refine hQ (AN (fun z w' hg=>?_) ?_)
  ·obtain⟨c1,c2,c3,c4⟩:=HS.out _ hg;go_simp;exact VU _
  refine hQ (hQ (hQ (AN (fun z w' hg=>?_) ?_)))
  ·obtain⟨c1,c2,c3,c4⟩:=HS.out _ hg;go_simp;exact VU _
  exact hQ (hQ (UT (fun w' hg=>HP1.out _) (Fd DU)))
 case hal1=>
  intro o ho a1 w1 K hK;obtain rfl:=VE ho;go_simp;exact hK _ rfl
 case hT1=>
  intro z wz hz hbz hgz;simp only[ny];have h1:=m1.grew hgz;have h2:=m2.grew hgz;have h3:=m3.grew hgz;have hG7:=hG6.trans hgz;clear m1 m2 m3 hG6 hgz HS hz;generalize hz8:z=z8 at*;clear hz8;have b8:=hbz;clear hbz;have HS:=V3 (show ∀w',A4 wz.drew w'→w'.cell? ⟨w.heap.size,0,none⟩=some (.int .i64 n1)∧w'.cell? ⟨w.heap.size,1,none⟩=some (.int .i64 (p:Int))∧w'.cell? ⟨w.heap.size+1,0,none⟩=some (.int .i64 n2)∧w'.cell? ⟨w.heap.size+1,1,none⟩=some (.int .i64 (q:Int))from fun w' g=>⟨((h1.drewN 1).grew g).cell 0,((h1.drewN 1).grew g).cell 1,((h2.drewN 1).grew g).cell 0,((h2.drewN 1).grew g).cell 1⟩);go_upto_region 5 with fail;refine Fr (by kernel_rfl) 10 9 9 [.pointer (some ⟨w.heap.size,1,none⟩),.int .i64 (p:Int),.int .i64 (h:Int),.int .i64 s,.pointer (some ⟨w.heap.size+1,1,none⟩),.int .i64 (q:Int),.int .i64 (g:Int),.int .i64 t,.agg (B5 D).toArray,undef] 169 [.int .u64 0,.int .u64 0,.bool false] _ (by kernel_rfl) (by kernel_rfl) (by decide) (by rfl) rfl (VH (by kernel_rfl)) (by kernel_rfl) ?hH2 ?hal2 (B5 D) (.tmp 9) (.tmp 49) 169 _ rfl rfl rfl rfl EI rfl (GY _) (fun z=>by kernel_rfl) (fun z=>by kernel_rfl) (by kernel_rfl) (by kernel_rfl) ?hT2
  case hH2=>
   simp only[ny];refine hQ (AN (fun z w' hg=>?_) ?_)
   ·obtain⟨c1,c2,c3,c4⟩:=HS.out _ hg;go_simp;exact VU _
   refine hQ (hQ (hQ (AN (fun z w' hg=>?_) ?_)))
   ·obtain⟨c1,c2,c3,c4⟩:=HS.out _ hg;go_simp;exact VU _
   exact hQ (hQ (UT (fun w' hg=>HP2.out _) (Fd DU)))
  case hal2=>
   intro o ho a1 w1 K hK;obtain rfl:=VE ho;go_simp;exact hK _ rfl
  case hT2=>
   intro z wy hz hbz hgz;simp only[ny];have h6:=h3.grew hgz;have b8:=b8.grew hgz;have hG8:=hG7.trans hgz;clear h1 h2 h3 hG7 hgz HS hz HP1 HP2 e1 e2 e3 e4 q0 q1 q2 q3 hx hy hs ht;generalize hz9:z=z9 at*;clear hz9;have b9:=hbz;clear hbz;have hlo1:N.natAbs%18446744073709551616<18446744073709551616:=Nat.mod_lt _ (by decide);have hlo2:D.natAbs%18446744073709551616<18446744073709551616:=Nat.mod_lt _ (by decide);have hdm1:=Nat.div_add_mod N.natAbs 18446744073709551616;have hdm2:=Nat.div_add_mod D.natAbs 18446744073709551616;have c5:wy.cell? ⟨z8,0,none⟩=some (.int .u64 ((N.natAbs/18446744073709551616:Nat):Int)):=b8.cell 0;have c6:wy.cell? ⟨z8,1,none⟩=some (.int .u64 ((N.natAbs%18446744073709551616:Nat):Int)):=b8.cell 1;have c7:wy.cell? ⟨z8,2,none⟩=some (.bool (decide (N<0))):=b8.cell 2;have c8:wy.cell? ⟨z9,0,none⟩=some (.int .u64 ((D.natAbs/18446744073709551616:Nat):Int)):=b9.cell 0;have c9:wy.cell? ⟨z9,1,none⟩=some (.int .u64 ((D.natAbs%18446744073709551616:Nat):Int)):=b9.cell 1;clear b8 b9;generalize N.natAbs/18446744073709551616=hi1 at*;generalize N.natAbs%18446744073709551616=lo1 at*;generalize D.natAbs/18446744073709551616=hi2 at*;generalize D.natAbs%18446744073709551616=lo2 at*;obtain⟨sg,hsg⟩:∃b:Bool,decide (N<0)=b:=⟨_,rfl⟩;rw[hsg]at c7;by_cases k1:hi1=0
   case neg=>
    have u1:((hi1:Int)==0)=false:=by rw[V4];omega
    have u2:((hi1:Int) !=0)=true:=by simp;omega
    have HB:Hid (EH n1 p n2 q=(0,0,5)):=V3 (by rw[HMR.out,VM];omega);clear hdm1 hdm2 hlo1 hlo2;go_wp2_with(first|(refine sN (.tmp 4) (.tmp 68) (AI 0 0) h6 rF ?_;intro w8 hb8 k8 d8)|fail);refine rT rF hb8 ?_;rw[HB.out];exact⟨rfl,VV hG8 k8 (fun i hi e=>by omega)⟩
   have u1:((hi1:Int)==0)=true:=by rw[VC];omega
   have u2:((hi1:Int) !=0)=false:=by simp;omega
   by_cases k2:4611686018427387904<lo1
   case pos=>
    have u3:decide ((4611686018427387904:Int)<(lo1:Int))=true:=by simp;omega
    have HB:Hid (EH n1 p n2 q=(0,0,5)):=V3 (by rw[HMR.out,VM];omega);clear hdm1 hdm2 hlo1 hlo2;go_wp2_with(first|(refine sN (.tmp 4) (.tmp 68) (AI 0 0) h6 rF ?_;intro w8 hb8 k8 d8)|fail);refine rT rF hb8 ?_;rw[HB.out];exact⟨rfl,VV hG8 k8 (fun i hi e=>by omega)⟩
   have u3:decide ((4611686018427387904:Int)<(lo1:Int))=false:=by simp;omega
   by_cases k3:hi2=0
   case neg=>
    have u4:((hi2:Int)==0)=false:=by rw[V4];omega
    have u5:((hi2:Int) !=0)=true:=by simp;omega
    have HB:Hid (EH n1 p n2 q=(0,0,5)):=V3 (by rw[HMR.out,VM];omega);clear hdm1 hdm2 hlo1 hlo2;go_wp2_with(first|(refine sN (.tmp 4) (.tmp 68) (AI 0 0) h6 rF ?_;intro w8 hb8 k8 d8)|fail);refine rT rF hb8 ?_;rw[HB.out];exact⟨rfl,VV hG8 k8 (fun i hi e=>by omega)⟩
   have u4:((hi2:Int)==0)=true:=by rw[VC];omega
   have u5:((hi2:Int) !=0)=false:=by simp;omega
   by_cases k4:4611686018427387904<lo2
   case pos=>
    have u6:decide ((4611686018427387904:Int)<(lo2:Int))=true:=by simp;omega
    have HB:Hid (EH n1 p n2 q=(0,0,5)):=V3 (by rw[HMR.out,VM];omega);clear hdm1 hdm2 hlo1 hlo2;go_wp2_with(first|(refine sN (.tmp 4) (.tmp 68) (AI 0 0) h6 rF ?_;intro w8 hb8 k8 d8)|fail);refine rT rF hb8 ?_;rw[HB.out];exact⟨rfl,VV hG8 k8 (fun i hi e=>by omega)⟩
   have u6:decide ((4611686018427387904:Int)<(lo2:Int))=false:=by simp;omega
   have HB:Hid (EH n1 p n2 q=(N,D,0)):=V3 (by rw[HMR.out,VN];omega);have HD2:Hid (D=(lo2:Int)):=V3 (by have:=HD0.out;omega);have v1:IntKind.i64.wrap (lo1:Int)=(lo1:Int):=IntWalk.i64_in _ (by omega);have v2:IntKind.i64.wrap (-(lo1:Int))= -(lo1:Int):=IntWalk.i64_in _ (by omega);have v3:IntKind.i64.wrap (lo2:Int)=(lo2:Int):=IntWalk.i64_in _ (by omega);cases sg
   ·have HN2:Hid (N=(lo1:Int)):=V3 (by have:=of_decide_eq_false hsg;omega);clear hsg k1 k2 k3 k4 hdm1 hdm2 hlo1 hlo2;go_wp2_with(first|(refine sN (.tmp 4) (.tmp 80) (AI (lo1:Int) (lo2:Int)) h6 rF ?_;intro w8 hb8 k8 d8)|fail);refine rT rF hb8 ?_;rw[HB.out,HN2.out,HD2.out];exact⟨rfl,VV hG8 k8 (fun i hi e=>by omega)⟩
   have HN2:Hid (N= -(lo1:Int)):=V3 (by have:=VH hsg;omega);clear hsg k1 k2 k3 k4 hdm1 hdm2 hlo1 hlo2;go_wp2_with(first|(refine sN (.tmp 4) (.tmp 80) (AI (-(lo1:Int)) (lo2:Int)) h6 rF ?_;intro w8 hb8 k8 d8)|fail);refine rT rF hb8 ?_;rw[HB.out,HN2.out,HD2.out];exact⟨rfl,VV hG8 k8 (fun i hi e=>by omega)⟩
end Go.Proofs.YthpflelgbadkcaaGreatDoor
namespace Go.Proofs.YthpflelgbadkcaaGreatDoor
open Go.Shelf Go.RowKit Pl
def K7:Go.Shelf.Ren:=⟨fun|25=>133|26=>134|n=>n,fun|_=>123,fun|n=>n⟩
theorem St:Go.Proofs.Lays7.n25 Tryz.prog K7:={
 mixed:=by kernel_rfl
 f25:=Tryz.func133.trans (congrArg some (by kernel_rfl))
 t22:=Tryz.underlying123
 a22:=Tryz.isAgg123
 z22:=Tryz.sizeOf123
 v22:=Tryz.zeroValue123
 i22:=by kernel_rfl }
theorem TI:Go.Proofs.Lays7.n26 Tryz.prog K7:={
 mixed:=by kernel_rfl
 f26:=Tryz.func134.trans (congrArg some (by kernel_rfl))
 t22:=Tryz.underlying123
 a22:=Tryz.isAgg123
 z22:=Tryz.sizeOf123
 v22:=Tryz.zeroValue123
 i22:=by kernel_rfl }
theorem KY (x y c:Nat) (hc:c≤1) (w:World):
  (callFunc 133 #[.int .u64 (x:Nat),.int .u64 (y:Nat),.int .u64 (c:Nat)]).run Tryz.prog w= .ok (.value (.tuple #[.int .u64 (((x+y+c)%18446744073709551616:Nat):Int),.int .u64 (((x+y+c)/18446744073709551616:Nat):Int)])) w:=
 Go.Proofs.Any7.bits_Add64 St x y c hc w
theorem Bd (x y b:Nat) (hb:b≤1) (w:World):
  (callFunc 134 #[.int .u64 (x:Nat),.int .u64 (y:Nat),.int .u64 (b:Nat)]).run Tryz.prog w= .ok (.value (.tuple #[.int .u64 (((x+18446744073709551616-y-b)%18446744073709551616:Nat):Int),.int .u64 ((if x<y+b then 1 else 0:Nat):Int)])) w:=
 Go.Proofs.Any7.bits_Sub64 TI x y b hb w
end Go.Proofs.YthpflelgbadkcaaGreatDoor
