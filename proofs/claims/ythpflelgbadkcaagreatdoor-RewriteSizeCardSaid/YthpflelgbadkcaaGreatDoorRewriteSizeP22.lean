/- What the card of the law stands on: DoorW, Shape, DoorX, Itoa1, BoxX, OrdL. -/
import Derived.Test.YthpflelgbadkcaaGreatDoorRewriteSizeP01
import Derived.Test.YthpflelgbadkcaaGreatDoorRewriteSizeP21
import Derived.Test.YthpflelgbadkcaaGreatDoorRewriteSizeP07
import Derived.Deep.Slices
import Derived.Deep.Fields
import Derived.Test.YthpflelgbadkcaaGreatDoorRewriteSizeP02
import Derived.Test.YthpflelgbadkcaaGreatDoorRewriteSizeP09
set_option maxRecDepth 100000
set_option maxHeartbeats 12800000
set_option linter.unusedVariables false
set_option linter.unusedSimpArgs false
namespace Go.Proofs.YthpflelgbadkcaaGreatDoor
open Go.ChangeShapes Go.WideShapes Go.ChangeAt Go.RowKit Pl
theorem Mz:Tryz.prog.cellsOf 9=1:=by kernel_rfl
def Ej (ss:List (List UInt8)):DataW Unit:= .agg (ss.map fun s=> .lit (.string s))
theorem JA {w:World} {sp:Nat→Bool} {held:Bool} {fuel:Nat} {t:TypeId} {n:Nat} {cs:List Value} {ss:List (List UInt8)} {p:List MemPlace}
  (ht:Tryz.prog.underlying t=some (.array n 9)) (hct:Tryz.prog.cellsOf t=n)
  (h:DataW.trod (fun _=>()) Tryz.prog w 0 sp held fuel t cs=some (Ej ss,p)):cs=ss.map fun s=>Value.string ⟨s.toArray⟩:=by
 cases fuel with
 |zero=>simp[DataW.trod]at h
 |succ fuel=>
  simp only[DataW.trod,ht,Mz,hct,Nat.mul_one]at h;split at h
  ·rename_i hl
   obtain⟨xs,hm,hx⟩:=Option.map_eq_some_iff.1 h;have hxs:xs.map (·.1)=ss.map fun s=>(DataW.lit (.string s):DataW Unit):=by
    have:=congrArg Prod.fst hx;simpa[Ej]using this
   have hxl:xs.length=n:=by simpa using Lib.mapM_length hm
   have hzl:ss.length=n:=by
    have:=congrArg List.length hxs;simp at this;omega
   apply List.ext_getElem?;intro i;by_cases hi:i<n
   ·obtain⟨b,hb,hf⟩:=Lib.mapM_at hm i i (by simp[hi]);obtain⟨s,hc,rfl,_⟩:=DataW.trod_string Tryz.underlying9 hf;have h1:cs[i]? =some (.string s):=by
     have:=congrArg (·[0]?) hc;simpa[List.getElem?_take,List.getElem?_drop]using this
    have h2:(xs.map (·.1))[i]? =some (DataW.lit (.string s.data.toList):DataW Unit):=by simp[hb]
    rw[hxs]at h2;simp only[List.getElem?_map,Option.map_eq_some_iff,DataW.lit.injEq,Lit.string.injEq]at h2;obtain⟨z',hz',hzz⟩:=h2;rw[h1,List.getElem?_map,hz',hzz];rfl
   rw[List.getElem?_eq_none (by omega),List.getElem?_eq_none (by simp;omega)]
  cases h
theorem LQ {w:World}:∀{l:List (String×DataW Unit)} {ps:List MemPlace},DataW.LaidVars Tryz.prog w l ps→∀{x:String×DataW Unit},x∈l→
  ∃g t cs fuel p,Tryz.prog.globalNamed x.1=some g∧(Tryz.prog.globals[g]?).map (·.type)=some t∧w.var? Tryz.prog x.1=some cs∧DataW.trod (fun _=>()) Tryz.prog w 0 (fun _=>true) false fuel t cs.toList=some (x.2,p)
 |[],_,_,_,hx=>nomatch hx
 |(n,d)::r,_,h,x,hx=>by
  obtain⟨g,t,cs,fuel,p,q,e1,e2,e3,e4,hr, -⟩:=h;rcases List.mem_cons.1 hx with rfl|hx
  ·exact⟨g,t,cs,fuel,p,e1,e2,e3,e4⟩
  exact LQ hr hx
theorem El {W:World} {l:List (String×DataW Unit)} (h:laidMet Tryz.prog l W) {name:String} {g:Nat} {t:TypeId} {n:Nat} {ss:List (List UInt8)} (hm:(name,Ej ss)∈l)
  (hg:Tryz.prog.globalNamed name=some g) (hty:(Tryz.prog.globals[g]?).map (·.type)=some t) (ht:Tryz.prog.underlying t=some (.array n 9)) (hct:Tryz.prog.cellsOf t=n) (h0:0<ss.length):
  g<W.heap.size∧∀j s,(ss.map fun s=>(⟨s.toArray⟩:ByteArray))[j]? =some s→W.cell? ⟨g,j,none⟩=some (.string s):=by
 obtain⟨ps,hv, -⟩:=h;obtain⟨g',t',cs,fuel,p,hg',ht',hvar,hd⟩:=LQ hv hm;obtain rfl:=SI (hg.symm.trans hg');obtain rfl:=SI (hty.symm.trans ht');have hc:=JA ht hct hd;have hcell:∀j s,(ss.map fun s=>(⟨s.toArray⟩:ByteArray))[j]? =some s→W.cell? ⟨g,j,none⟩=some (.string s):=fun j s hj=>by
  rw[World.var?_cell hg hvar,←Array.getElem?_toList,hc];rw[List.getElem?_map]at hj ⊢;obtain⟨x,hx,rfl⟩:=Option.map_eq_some_iff.1 hj;rw[hx];rfl
 refine⟨?_,hcell⟩;have hj0:(ss.map fun s=>(⟨s.toArray⟩:ByteArray))[0]? =some ⟨(ss[0]'h0).toArray⟩:=by rw[List.getElem?_map,SF h0];rfl
 exact Jt (hcell 0 _ hj0)
def S0:List (List UInt8):=[[115,117,109],[109,105,110],[109,97,120],[99,111,117,110,116],[107,116,104]]
def S1:List (List UInt8):=[[108,97,115,116],[108,101,97,115,116],[103,114,101,97,116,101,115,116],[116,111,116,97,108],[109,101,97,110],[105,110,99,114,101,97,115,101],[114,97,116,101],[107,116,104]]
def Rh:List (List UInt8):=[[43],[45],[42],[47]]
def Rb:List (List UInt8):=[[61],[33,61],[94,61]]
theorem Oj {W:World} {l:List (String×DataW Unit)} (h:laidMet Tryz.prog l W) (h1:("intervalmon/parser.groupWords",Ej S0)∈l) (h2:("intervalmon/parser.functionWords",Ej S1)∈l) (h3:("intervalmon/parser.operators",Ej Rh)∈l) (h4:("intervalmon/parser.matchSymbols",Ej Rb)∈l):D0 W:=by
 refine⟨?_,?_,?_⟩
 ·exact El h h1 (g:=0) (by kernel_rfl) (t:=141) (by kernel_rfl) Tryz.underlying141 (by kernel_rfl) (by decide)
 ·exact El h h2 (g:=5) (by kernel_rfl) (t:=204) (by kernel_rfl) Tryz.underlying204 (by kernel_rfl) (by decide)
 have h5:=El h h3 (g:=1) (by kernel_rfl) (t:=192) (by kernel_rfl) Tryz.underlying192 (by kernel_rfl) (by decide);exact⟨h5.1,h5.2,El h h4 (g:=4) (by kernel_rfl) (t:=203) (by kernel_rfl) Tryz.underlying203 (by kernel_rfl) (by decide)⟩
def Dw:DataW Unit→Array Value
 | .agg ps=>(ps.map fun d=>match d with
  | .lit l=>l.value
  |_=>undef).toArray
 |_=>#[]
noncomputable def GA (os:Os):World:=
 { World.holding Tryz.prog os ⟨#[],#[],[]⟩with heap:=((((((((World.holding Tryz.prog os ⟨#[],#[],[]⟩).heap.modify 8 (IB (Dw Rows.laid_math_bits_deBruijn32tab))).modify 9 (IB (Dw Rows.laid_math_bits_deBruijn64tab))).modify 7 (IB (Dw Rows.laid_internal_strconv_uint64pow10))).modify 0 (IB (Dw Rows.laid_intervalmon_parser_groupWords))).modify 5 (IB (Dw Rows.laid_intervalmon_parser_functionWords))).modify 4 (IB (Dw Rows.laid_intervalmon_parser_matchSymbols))).modify 1 (IB (Dw Rows.laid_intervalmon_parser_operators))) }
end Go.Proofs.YthpflelgbadkcaaGreatDoor
namespace Go.Proofs.YthpflelgbadkcaaGreatDoor
open Go.RowKit Pl
inductive Sh where
 |mk (kind:Int) (kids:List Sh)
namespace Sh
def kind:Sh→Int| .mk k _=>k
def kids:Sh→List Sh| .mk _ ks=>ks
end Sh
mutual
def Bp:Sh→Nat
 | .mk k ks=>(if k=1 then 1 else 0)+BO ks
def BO:List Sh→Nat
 |[]=>0
 |e::es=>Bp e+BO es
end
mutual
def CS:Sh→Nat
 | .mk _ ks=>1+C1 ks
def C1:List Sh→Nat
 |[]=>0
 |e::es=>CS e+C1 es
end
mutual
def Hv:Ex→Sh
 | .mk k _ _ _ _ _ _ _ _ _ ks=> .mk k (E0 ks)
def E0:List Ex→List Sh
 |[]=>[]
 |e::es=>Hv e::E0 es
end
theorem Kv (e:Sh):Bp e=(if e.kind=1 then 1 else 0)+BO e.kids:=by cases e;rw[Bp];rfl
theorem Hb (e:Sh):CS e=1+C1 e.kids:=by cases e;rw[CS];rfl
theorem G0 (e:Sh):1≤CS e:=by rw[Hb];omega
theorem FA:∀{es:List Sh} {e:Sh},e∈es→CS e≤C1 es
 |a::ax,e,h=>by
  unfold C1;rcases List.mem_cons.1 h with rfl|h
  ·omega
  have:=FA h;omega
mutual
theorem Lr:∀e:Sh,Bp e≤CS e
 | .mk k ks=>by
  unfold Bp CS;have:=E2 ks;split<;>omega
theorem E2:∀es:List Sh,BO es≤C1 es
 |[]=>by unfold BO C1;omega
 |e::es=>by
  unfold BO C1;have h1:=Lr e;have h2:=E2 es;omega
end
theorem E1 {es:List Sh} {j:Nat} {e:Sh} (h:es[j]? =some e):BO (es.take (j+1))=BO (es.take j)+Bp e:=by
 induction es generalizing j with
 |nil=>simp at h
 |cons a tl ih=>
  cases j with
  |zero=>
   obtain rfl:a=e:=by simpa using h
   simp[BO]
  |succ j=>
   rw[List.take_succ_cons,List.take_succ_cons];unfold BO;rw[ih (by simpa using h)];omega
theorem CU:∀(es:List Sh) (j:Nat),BO (es.take j)≤BO es
 |[],j=>by simp
 |e::es,0=>by simp[BO]
 |e::es,j+1=>by
  rw[List.take_succ_cons];unfold BO;have:=CU es j;omega
theorem Fs:∀es:List Sh,es.length≤C1 es
 |[]=>by simp
 |e::es=>by
  have h1:=Fs es;have h2:=G0 e;unfold C1;rw[List.length_cons];omega
mutual
theorem G5:∀e:Ex,CS (Hv e)=AL e
 | .mk _ _ _ _ _ _ _ _ _ _ ks=>by
  unfold Hv CS AL;rw[Hp ks]
theorem Hp:∀es:List Ex,C1 (E0 es)=Af es
 |[]=>by unfold E0 C1 Af;rfl
 |e::es=>by
  unfold E0 C1 Af;rw[G5 e,Hp es]
end
theorem FR:∀es:List Ex,(E0 es).length=es.length
 |[]=>by unfold E0;rfl
 |e::es=>by unfold E0;rw[List.length_cons,List.length_cons,FR es]
def Nl (w:World) (x:Addr) (cs:List Value):Prop:=∀j u,cs[j]? =some u→w.cell? (x.add j)=some u
theorem D8 (x:Addr) (n:Nat):(x.add n).block=x.block:=by unfold Addr.add;split<;>rfl
theorem MT {w:World} {b o:Nat} {cs:List Value} (h:w.rangeAt b o cs):Nl w ⟨b,o,none⟩ cs:=fun j u hu=>by rw[Addr.add_mid];exact h j u hu
def BD (k:Int) (c1 c2 c3 c4 c5 c6 c7 c8 c9 vk:Value):List Value:=[.int .i64 k,c1,c2,c3,c4,c5,c6,c7,c8,c9,vk]
mutual
def C5 (w:World) (Q:Nat→Prop):Sh→List Value→Prop
 | .mk k ks,cs=>∃c1 c2 c3 c4 c5 c6 c7 c8 c9 vk,cs=BD k c1 c2 c3 c4 c5 c6 c7 c8 c9 vk∧(∀v∈[c1,c2,c3,c4,c5,c6,c7,c8,c9],v.oneCell'=true)∧
   ∃A c,vk= .slice A ks.length c∧ks.length≤c∧(0<ks.length→∃x,A=some x∧Q x.block∧CB w Q x 0 ks)
def CB (w:World) (Q:Nat→Prop) (x:Addr) (i:Nat):List Sh→Prop
 |[]=>True
 |e::es=>(∃cs,Nl w (x.add (i*11)) cs∧C5 w Q e cs)∧CB w Q x (i+1) es
end
def D6 (w:World) (Q:Nat→Prop) (v:Value) (es:List Sh):Prop:=
 ∃A c,v= .slice A es.length c∧es.length≤c∧(0<es.length→∃x,A=some x∧Q x.block∧CB w Q x 0 es)
section
variable {w w':World} {Q Q':Nat→Prop}
theorem C5.open_ {e:Sh} {cs:List Value} (h:C5 w Q e cs):∃c1 c2 c3 c4 c5 c6 c7 c8 c9 vk,cs=BD e.kind c1 c2 c3 c4 c5 c6 c7 c8 c9 vk∧(∀v∈[c1,c2,c3,c4,c5,c6,c7,c8,c9],v.oneCell'=true)∧D6 w Q vk e.kids:=by
 cases e;unfold C5 at h;exact h
theorem C5.mk_ {e:Sh} {c1 c2 c3 c4 c5 c6 c7 c8 c9 vk:Value} (h1:∀v∈[c1,c2,c3,c4,c5,c6,c7,c8,c9],v.oneCell'=true) (h2:D6 w Q vk e.kids):C5 w Q e (BD e.kind c1 c2 c3 c4 c5 c6 c7 c8 c9 vk):=by
 cases e;unfold C5;exact⟨_,_,_,_,_,_,_,_,_,_,rfl,h1,h2⟩
theorem Nl.keep {S:Nat→Prop} {x:Addr} {cs:List Value} (h:Nl w x cs) (hb:x.block<w.heap.size) (hk:AC S w w') (hs:¬S x.block):Nl w' x cs:=fun j u hu=>
 (World.cell?_of_block (a:=x.add j) (by rw[D8];exact hk.block _ hb hs)).trans (h j u hu)
mutual
theorem C5.keep {S:Nat→Prop} (hq:∀b,Q b→b<w.heap.size∧¬S b∧Q' b) (hk:AC S w w'):∀(e:Sh) (cs:List Value),C5 w Q e cs→C5 w' Q' e cs
 | .mk k ks,cs,h=>by
  unfold C5 at h ⊢;obtain⟨c1,c2,c3,c4,c5,c6,c7,c8,c9,vk,h1,h2,A,c,h4,h5,h6⟩:=h;refine⟨c1,c2,c3,c4,c5,c6,c7,c8,c9,vk,h1,h2,A,c,h4,h5,fun hn=>?_⟩;obtain⟨x,e1,hb,hks⟩:=h6 hn;exact⟨x,e1,(hq _ hb).2.2,CB.keep hq hk x hb ks 0 hks⟩
theorem CB.keep {S:Nat→Prop} (hq:∀b,Q b→b<w.heap.size∧¬S b∧Q' b) (hk:AC S w w') (x:Addr) (hb:Q x.block):∀(es:List Sh) (i:Nat),CB w Q x i es→CB w' Q' x i es
 |[],_,_=>by unfold CB;trivial
 |e::es,i,h=>by
  unfold CB at h ⊢;obtain⟨⟨cs,h1,h2⟩,h3⟩:=h;exact⟨⟨cs,h1.keep (by rw[D8];exact(hq _ hb).1) hk (by rw[D8];exact(hq _ hb).2.1),C5.keep hq hk e cs h2⟩,CB.keep hq hk x hb es (i+1) h3⟩
end
theorem D6.keep {v:Value} {es:List Sh} {S:Nat→Prop} (h:D6 w Q v es) (hq:∀b,Q b→b<w.heap.size∧¬S b∧Q' b) (hk:AC S w w'):D6 w' Q' v es:=by
 obtain⟨A,c,hv,hc,hx⟩:=h;refine⟨A,c,hv,hc,fun hn=>?_⟩;obtain⟨x,e,hb,hks⟩:=hx hn;exact⟨x,e,(hq _ hb).2.2,CB.keep hq hk x hb es 0 hks⟩
theorem D6.nil (w:World) (Q:Nat→Prop):D6 w Q (.slice none 0 0) []:=⟨none,0,rfl,SD _,fun h=>absurd h (by simp)⟩
theorem D6.slice {v:Value} {es:List Sh} (h:D6 w Q v es):∃A n c,v= .slice A n c∧n=es.length∧n≤c:=by
 obtain⟨A,c,rfl,hc,_⟩:=h;exact⟨A,_,c,rfl,rfl,hc⟩
theorem CB.at_ {x:Addr}:∀{es:List Sh} {i j:Nat} {e:Sh},CB w Q x i es→es[j]? =some e→∃cs,Nl w (x.add ((i+j)*11)) cs∧C5 w Q e cs
 |e::es,i,0,e',h,hj=>by
  unfold CB at h;obtain rfl:e=e':=by simpa using hj
  exact h.1
 |e::es,i,j+1,e',h,hj=>by
  unfold CB at h;have:=CB.at_ (j:=j) h.2 (by simpa using hj);rwa[show i+1+j=i+(j+1) by omega]at this
theorem D6.at_ {A:Option Addr} {n c j:Nat} {es:List Sh} {e:Sh} (h:D6 w Q (.slice A n c) es) (hj:es[j]? =some e):∃x cs,A=some x∧Q x.block∧Nl w (x.add (j*11)) cs∧C5 w Q e cs:=by
 obtain⟨A',c',hv,_,hx⟩:=h;injection hv with hA;subst hA;have hl:j<es.length:=(SK.1 hj).1;obtain⟨x,rfl,hb,hks⟩:=hx (by omega);obtain⟨cs,h1,h2⟩:=hks.at_ hj;rw[Nat.zero_add]at h1;exact⟨x,cs,rfl,hb,h1,h2⟩
theorem CB.of {x:Addr}:∀{es:List Sh} {i:Nat},(∀(j:Nat) (e:Sh),es[j]? =some e→∃cs,Nl w (x.add ((i+j)*11)) cs∧C5 w Q e cs)→CB w Q x i es
 |[],_,_=>by unfold CB;trivial
 |e::es,i,h=>by
  unfold CB;refine⟨h 0 e rfl,CB.of fun j e' hj=>?_⟩;have:=h (j+1) e' (by simpa using hj);rwa[show i+(j+1)=i+1+j by omega]at this
mutual
theorem AW.sh:∀(e:Ex) (cs:List Value),AW w Q e cs→C5 w Q (Hv e) cs
 | .mk kind fn window offset k num den name ms bys kids,cs,h=>by
  unfold AW at h;unfold Hv C5;obtain⟨vm,vb,vk,h1,h2,h3,A,c,h4,h5,h6⟩:=h;obtain⟨A1,n1,c1,rfl, -⟩:=h2.slice;obtain⟨A2,n2,c2,rfl, -⟩:=h3.slice;refine⟨_,_,_,_,_,_,_,_,_,vk,h1,fun v hv=>?_,A,c,by rw[FR];exact h4,by rw[FR];exact h5,fun hn=>?_⟩
  ·simp only[List.mem_cons,List.not_mem_nil,or_false]at hv;rcases hv with rfl|rfl|rfl|rfl|rfl|rfl|rfl|rfl|rfl<;>rfl
  rw[FR]at hn;obtain⟨b,o,e1,hb,hks⟩:=h6 hn;exact⟨⟨b,o,none⟩,e1,hb,BY.sh b o kids 0 (by rw[Nat.zero_mul,Nat.add_zero];exact hks)⟩
theorem BY.sh (b o:Nat):∀(es:List Ex) (i:Nat),BY w Q b (o+i*11) es→CB w Q ⟨b,o,none⟩ i (E0 es)
 |[],_,_=>by unfold E0 CB;trivial
 |e::es,i,h=>by
  unfold BY at h;unfold E0 CB;obtain⟨⟨cs,h1,h2⟩,h3⟩:=h;refine⟨⟨cs,?_,AW.sh e cs h2⟩,BY.sh b o es (i+1) ?_⟩
  ·rw[Addr.add_mid];exact MT h1
  rwa[show o+(i+1)*11=o+i*11+11 by omega]
end
end
theorem CT {e:Sh} {w:World} {Q:Nat→Prop} {cs:List Value} (h:C5 w Q e cs):∀v∈cs,v.oneCell'=true:=by
 obtain⟨c1,c2,c3,c4,c5,c6,c7,c8,c9,vk,rfl,h1,hT⟩:=h.open_;obtain⟨A,n,c,rfl, -⟩:=hT.slice;intro v hv;simp only[BD,List.mem_cons,List.not_mem_nil,or_false]at hv h1;rcases hv with rfl|h2|h2|h2|h2|h2|h2|h2|h2|h2|rfl
 ·rfl
 all_goals first|rfl|(exact h1 v (by simp[h2]))
theorem Fo {P:Program} (w:World) (x:Addr) (ty:TypeId) (cs:List Value) (d:TypeDesc) (hc:Nl w x cs)
  (hu:P.underlying ty=some d) (hd:d.isRow=true) (hi:(P.info? ty).map (·.size)=some cs.length):
  (loadVar ty x).run P w= .ok (.agg cs.toArray) w:=by
 have hl:(loadCells x cs.length).run P w= .ok cs.toArray w:=
  run_loadCells_list (P:=P) w x cs (fun j v hv=>hc j v hv)
 cases hq:P.info? ty with
 |none=>simp[hq]at hi
 |some i=>
  have hs:i.size=cs.length:=by simpa[hq]using hi
  have hagg:(isAgg ty).run P w= .ok true w:=by
   unfold isAgg;rw[Sem.run_bind,run_underlying hu w];cases d<;>simp_all
  simp[loadVar,Sem.run_bind,hagg,sizeOf,typeInfo,hq,hs,hl]
theorem Nr {P:Program} {op:Oper} {a:Act} {w:World} {K:Act→World→Prop} {Q:Exit→Act→World→Prop} (ty:TypeId) (x:Operand) (ho:op.op= .load ty x)
  (p:Addr) (hx:a.eval x= .pointer (some p)) (cs:List Value) (d:TypeDesc) (hc:Nl w p cs)
  (hu:P.underlying ty=some d) (hd:d.isRow=true) (hi:(P.info? ty).map (·.size)=some cs.length)
  (h:K (a.put op.dst (.agg cs.toArray)) w):op.wp P a w K Q:=by
 unfold Oper.wp execOp;simp only[ho,hx,Instr.loadAt,Instr.sureAddr,Sem.run_bind,Sem.run_pure,Result.andThen_ok,Fo w p ty cs d hc hu hd hi];exact h
theorem DI {P:Program} {ops:Array Oper} {rest:List Oper} {op:Oper} {a:Act} {w:World} {Q:Exit→Act→World→Prop} (hgd:op.guard=none) (ty:TypeId) (x:Operand) (ho:op.op= .load ty x)
  (p:Addr) (hx:a.eval x= .pointer (some p)) (cs:List Value) (d:TypeDesc) (hc:Nl w p cs)
  (hu:P.underlying ty=some d) (hd:d.isRow=true) (hi:(P.info? ty).map (·.size)=some cs.length)
  (h:wpList P ops Q rest (a.put op.dst (.agg cs.toArray)) w):wpList P ops Q (op::rest) a w:=
 wpList_plain hgd fun _ hK=>Nr ty x ho p hx cs d hc hu hd hi (hK _ _ h)
def cutS:Nat→Sh→Sh
 |0,e=> .mk e.kind []
 |d+1,e=> .mk e.kind ((e.kids.take 3).map (cutS d))
theorem Jn:∀(d:Nat) (e:Sh),CS (cutS d e)≤4^d
 |0,e=>by show 1+0≤1;omega
 |d+1,e=>by
  have h1:∀(l:List Sh),C1 (l.map (cutS d))≤l.length*4^d:=by
   intro l
   induction l with
   |nil=>simp[C1]
   |cons a tl ih=>
    rw[List.map_cons,List.length_cons];unfold C1;have:=Jn d a;rw[Nat.add_mul];omega
  have h2:=h1 (e.kids.take 3);have h3:(e.kids.take 3).length≤3:=by rw[List.length_take];omega
  have h4:(e.kids.take 3).length*4^d≤3*4^d:=Nat.mul_le_mul_right _ h3;have h5:1≤4^d:=Nat.pow_pos (by decide);show 1+C1 ((e.kids.take 3).map (cutS d))≤4^(d+1);rw[Nat.pow_succ];omega
end Go.Proofs.YthpflelgbadkcaaGreatDoor
namespace Go.Proofs.YthpflelgbadkcaaGreatDoor
open Go.ChangeShapes Go.WideShapes Go.ChangeAt Go.RowKit Pl Go.Deep
theorem JL:Tryz.prog.cellsOf 29=11:=by kernel_rfl
theorem MM:Tryz.prog.cellsOf 24=2:=by kernel_rfl
theorem NZ:Tryz.prog.cellsOf 9=1:=by kernel_rfl
theorem PS:Tryz.prog.cellsOf 25=1:=by kernel_rfl
theorem Oo:Tryz.prog.cellsOf 26=1:=by kernel_rfl
theorem Ov:Tryz.prog.cellsOf 27=1:=by kernel_rfl
section
variable {H:Type} {enc:TypeId×Value→H} {W:World}
theorem M7 {n:Nat} {v:Value} {x:DataW H×List MemPlace} (h:DataW.trod enc Tryz.prog W 0 (fun _=>true) true n 3 [v]=some x):∃k,v= .int .i64 k:=by
 obtain⟨k,e, -⟩:=DataW.trod_int Tryz.underlying3 h;exact⟨k,by simpa using e⟩
theorem Rg {n:Nat} {v:Value} {x:DataW H×List MemPlace} (h:DataW.trod enc Tryz.prog W 0 (fun _=>true) true n 9 [v]=some x):v.oneCell'=true:=by
 obtain⟨s,e, -⟩:=DataW.trod_string Tryz.underlying9 h;obtain rfl:v= .string s:=by simpa using e
 rfl
theorem RK {t e:TypeId} (ht:Tryz.prog.underlying t=some (.slice e)) {n:Nat} {v:Value} {x:DataW H×List MemPlace} (h:DataW.trod enc Tryz.prog W 0 (fun _=>true) true n t [v]=some x):v.oneCell'=true:=by
 rcases open_slice ht h with⟨hcs, -⟩|⟨a,len,cap,m,n,D,Pl,hcs, -⟩
 ·obtain rfl:v= .slice none 0 0:=by simpa using hcs
  rfl
 obtain rfl:v= .slice (some a) len cap:=by simpa using hcs
 rfl
theorem M4 (n:Nat):∀(cs:List Value) (x:DataW H×List MemPlace),DataW.trod enc Tryz.prog W 0 (fun _=>true) true n 29 cs=some x→∃s:Sh,C5 W (fun b=>b<W.heap.size) s cs:=by
 induction n using Nat.strongRecOn with
 |ind n ih=>
  intro cs x h;obtain⟨xs,m,hnm,_,hl,hxl,hf⟩:=DataW.trod_struct Tryz.underlying29 h;rw[JL]at hl;obtain⟨v0,v1,v2,v3,v4,v5,v6,v7,v8,v9,v10,rfl⟩:∃v0 v1 v2 v3 v4 v5 v6 v7 v8 v9 v10,cs=[v0,v1,v2,v3,v4,v5,v6,v7,v8,v9,v10]:=by
   rcases cs with _|⟨v0,_|⟨v1,_|⟨v2,_|⟨v3,_|⟨v4,_|⟨v5,_|⟨v6,_|⟨v7,_|⟨v8,_|⟨v9,_|⟨v10,_|⟨v11,r⟩⟩⟩⟩⟩⟩⟩⟩⟩⟩⟩⟩<;>simp at hl;exact⟨v0,v1,v2,v3,v4,v5,v6,v7,v8,v9,v10,rfl⟩
  have hx10:xs.length=10:=hxl;have hg:∀i,i<10→∃y,xs[i]? =some y:=fun i hi=>⟨_,SF (by omega)⟩
  obtain⟨y0,e0⟩:=hg 0 (by decide);obtain⟨y1,e1⟩:=hg 1 (by decide);obtain⟨y2,e2⟩:=hg 2 (by decide);obtain⟨y3,e3⟩:=hg 3 (by decide);obtain⟨y4,e4⟩:=hg 4 (by decide);obtain⟨y5,e5⟩:=hg 5 (by decide);obtain⟨y6,e6⟩:=hg 6 (by decide);obtain⟨y7,e7⟩:=hg 7 (by decide);obtain⟨y8,e8⟩:=hg 8 (by decide);obtain⟨y9,e9⟩:=hg 9 (by decide);obtain⟨k0,rfl⟩:∃k,v0= .int .i64 k:=M7 (n:=m) (x:=y0) (by have:=hf 0 _ rfl;rw[e0]at this;simpa[Dm]using this);obtain⟨k1,rfl⟩:∃k,v1= .int .i64 k:=M7 (n:=m) (x:=y1) (by have:=hf 1 _ rfl;rw[e1]at this;simpa[Dm]using this);obtain⟨k2,rfl⟩:∃k,v2= .int .i64 k:=M7 (n:=m) (x:=y2) (by have:=hf 2 _ rfl;rw[e2]at this;simpa[Dm]using this);obtain⟨k3,rfl⟩:∃k,v3= .int .i64 k:=M7 (n:=m) (x:=y3) (by have:=hf 3 _ rfl;rw[e3]at this;simpa[Dm]using this);obtain⟨k4,rfl⟩:∃k,v4= .int .i64 k:=M7 (n:=m) (x:=y4) (by have:=hf 4 _ rfl;rw[e4]at this;simpa[Dm]using this);have t5:DataW.trod enc Tryz.prog W 0 (fun _=>true) true m 24 [v5,v6]=some y5:=by have:=hf 5 _ rfl;rw[e5]at this;simpa[MM]using this
  have t6:DataW.trod enc Tryz.prog W 0 (fun _=>true) true m 9 [v7]=some y6:=by have:=hf 6 _ rfl;rw[e6]at this;simpa[NZ]using this
  have t7:DataW.trod enc Tryz.prog W 0 (fun _=>true) true m 25 [v8]=some y7:=by have:=hf 7 _ rfl;rw[e7]at this;simpa[PS]using this
  have t8:DataW.trod enc Tryz.prog W 0 (fun _=>true) true m 26 [v9]=some y8:=by have:=hf 8 _ rfl;rw[e8]at this;simpa[Oo]using this
  have t9:DataW.trod enc Tryz.prog W 0 (fun _=>true) true m 27 [v10]=some y9:=by have:=hf 9 _ rfl;rw[e9]at this;simpa[Ov]using this
  obtain⟨⟨k5,rfl⟩,⟨k6,rfl⟩⟩:(∃k,v5= .int .i64 k)∧∃k,v6= .int .i64 k:=by
   obtain⟨zs,q,_,_,_,hzl,hq⟩:=DataW.trod_struct Tryz.underlying24 t5;have hz2:zs.length=2:=hzl;refine⟨M7 (enc:=enc) (W:=W) (n:=q) (x:=zs[0]'(by omega)) ?_,M7 (enc:=enc) (W:=W) (n:=q) (x:=zs[1]'(by omega)) ?_⟩
   ·have:=hq 0 _ rfl;rw[SF (by omega)]at this;simpa[Dm]using this
   have:=hq 1 _ rfl;rw[SF (by omega)]at this;simpa[Dm]using this
  have o7:=Rg t6;have o8:=RK Tryz.underlying25 t7;have o9:=RK Tryz.underlying26 t8;have hones:∀v∈[Value.int .i64 k1,.int .i64 k2,.int .i64 k3,.int .i64 k4,.int .i64 k5,.int .i64 k6,v7,v8,v9],v.oneCell'=true:=by
   intro v hv;simp only[List.mem_cons,List.not_mem_nil,or_false]at hv;rcases hv with rfl|rfl|rfl|rfl|rfl|rfl|rfl|rfl|rfl<;>first|rfl|assumption
  have hT:∃ks,D6 W (fun b=>b<W.heap.size) v10 ks:=by
   rcases DataW.trod_slice Tryz.underlying27 t9 with⟨hcs, -⟩|⟨a,len,cap,elems,rest,q,hmq,hcs, -, -,hl2, -,hlen,hel, -, -⟩
   ·obtain rfl:v10= .slice none 0 0:=by simpa using hcs
    exact⟨[],D6.nil _ _⟩
   obtain rfl:v10= .slice (some a) len cap:=by simpa using hcs
   rw[JL]at hel;have hc:∀i,∃s:Sh,i<len→∃cs',Nl W (a.add (i*11)) cs'∧C5 W (fun b=>b<W.heap.size) s cs':=fun i=>by
    by_cases hi:i<len
    ·have h1:=hel i hi;rw[SF (by omega)]at h1;obtain⟨cs',hc,ht⟩:=Option.bind_eq_some_iff.1 h1;obtain⟨s,hs⟩:=ih q (by omega) cs' _ ht;obtain⟨_,hcl,hat⟩:=World.cells?_some hc;refine⟨s,fun _=>⟨cs',fun j u hu=>?_,hs⟩⟩;have hj:j<11:=by
      obtain⟨c1,c2,c3,c4,c5,c6,c7,c8,c9,vk,rfl, -⟩:=hs.open_;exact(SK.1 hu).1
     rw[hat j hj,hu]
    exact⟨.mk 0 [],fun h=>absurd h hi⟩
   obtain⟨f,hff⟩:=Classical.axiomOfChoice hc;have hlf:((List.range len).map f).length=len:=by simp
   refine⟨(List.range len).map f,some a,cap,by rw[hlf],by rw[hlf];exact hl2,fun h0=>⟨a,rfl,?_,CB.of fun j e hj=>?_⟩⟩
   ·obtain⟨cs',h1,h2⟩:=hff 0 (by omega);obtain⟨c1,c2,c3,c4,c5,c6,c7,c8,c9,vk,rfl, -⟩:=h2.open_;have:=Jt (h1 0 _ rfl);rwa[D8,D8]at this
   have hjl:j<len:=by have:=(SK.1 hj).1;omega
   obtain rfl:f j=e:=by
    rw[List.getElem?_map,List.getElem?_range hjl]at hj;simpa using hj
   rw[Nat.zero_add];exact hff j hjl
  obtain⟨ks,hT⟩:=hT;exact⟨.mk k0 ks,C5.mk_ (e:= .mk k0 ks) hones hT⟩
theorem R9 {b0:Nat} {v:Value} {d:DataW H} {p:List MemPlace} (hv:Value.okWide Tryz.prog W .any b0 29 v)
  (h:DataW.Trod enc Tryz.prog W 0 (fun _=>true) true 29 v d p):∃(s:Sh) (cs:List Value),v= .agg cs.toArray∧C5 W (fun b=>b<W.heap.size) s cs:=by
 unfold Value.okWide at hv;rw[Tryz.underlying29]at hv;obtain⟨cs,rfl, -⟩:=hv;obtain⟨fuel,hf⟩:=h;obtain⟨s,hs⟩:=M4 fuel _ _ hf;exact⟨s,cs.toList,by simp,hs⟩
end
end Go.Proofs.YthpflelgbadkcaaGreatDoor
namespace Go.Proofs.YthpflelgbadkcaaGreatDoor
open Go.RowKit Pl
def QU (n:Nat):ByteArray:=⟨#[UInt8.ofNat (48+n)]⟩
theorem La {n:Nat} (h:n<10):n=0∨n=1∨n=2∨n=3∨n=4∨n=5∨n=6∨n=7∨n=8∨n=9:=by omega
theorem N7 (n:Nat) (hn:n<10) (w:World):Calls Tryz.prog 171 #[.int .i64 (n:Nat)] w fun e w'=>e= .returned (.string (QU n))∧w'=w:=by
 rcases La hn with rfl|rfl|rfl|rfl|rfl|rfl|rfl|rfl|rfl|rfl<;>
  (go_enter Tryz.func171,Tryz.ntmps171;go_wp2_with fail;go_ret;exact⟨rfl,rfl⟩)
theorem MF (n:Nat) (hn:n<10) (w:World):Calls Tryz.prog 168 #[.int .i64 (n:Nat),.int .i64 10] w fun e w'=>e= .returned (.string (QU n))∧w'=w:=by
 have HS:=S9 (N7 n hn w);have t1:decide ((0:Int)≤(n:Int))=true:=by rw[decide_eq_true_iff];omega
 have t2:decide ((n:Int)<100)=true:=by rw[decide_eq_true_iff];omega
 go_enter Tryz.func168,Tryz.ntmps168;go_wp2_with(go_at_call 171;(with_reducible refine HS.out.mono ?_);rintro e3 w3 ⟨rfl,rfl⟩);go_ret;exact⟨rfl,rfl⟩
theorem Mx (n:Nat) (hn:n<10) (w:World):Calls Tryz.prog 160 #[.int .i64 (n:Nat)] w fun e w'=>e= .returned (.string (QU n))∧w'=w:=by
 have HS:=S9 (MF n hn w);go_enter Tryz.func160,Tryz.ntmps160;go_wp2_with(go_at_call 168;(with_reducible refine HS.out.mono ?_);rintro e3 w3 ⟨rfl,rfl⟩);go_ret;exact⟨rfl,rfl⟩
theorem P9 (n:Nat) (hn:n<10) (w:World):Calls Tryz.prog 147 #[.int .i64 (n:Nat)] w fun e w'=>e= .returned (.string (QU n))∧w'=w:=by
 have HS:=S9 (Mx n hn w);go_enter Tryz.func147,Tryz.ntmps147;go_wp2_with(go_at_call 160;(with_reducible refine HS.out.mono ?_);rintro e3 w3 ⟨rfl,rfl⟩);go_ret;exact⟨rfl,rfl⟩
end Go.Proofs.YthpflelgbadkcaaGreatDoor
namespace Go.Proofs.YthpflelgbadkcaaGreatDoor
open Go.RowKit
theorem C8 {P:Program} {ops:Array Oper} {rest:List Oper} {o:Oper} {a:Act} {Q:Exit→Act→World→Prop} {w:World} (T:TypeId) (x:Operand) (_:o.op= .box T x) (h:wpList P ops Q (o::rest) a w):wpList P ops Q (o::rest) a w:=h
theorem BW {P:Program} {ops:Array Oper} {rest:List Oper} {o:Oper} {a:Act} {Q:Exit→Act→World→Prop} {w:World} (T:TypeId) (x:Operand) (vs:List Value) (hgd:o.guard=none) (ho:o.op= .box T x) (hx:a.eval x= .agg vs.toArray)
  (h:∀w',Ag w' w.heap.size T vs.toArray→A5 w w'→w'.heap.size=w.heap.size+1→wpList P ops Q rest (a.put o.dst (.pointer (some ⟨w.heap.size,0,none⟩))) w'):wpList P ops Q (o::rest) a w:=by
 refine wpList_plain hgd fun K hK=>?_
 have h1:=h (w.alloc (.cells vs.toArray T)) (Sc w T _) ((Sa w).alloc _) (by simp);unfold Oper.wp execOp;simp only[ho,hx];simp[go_sem,Instr.box];exact hK _ _ h1
end Go.Proofs.YthpflelgbadkcaaGreatDoor
namespace Go.Proofs.YthpflelgbadkcaaGreatDoor
section
variable {P:Program} {ops:Array Oper} {Q:Exit→Act→World→Prop} {md:Region.Mode}
def H5 (md:Region.Mode) (ops:Array Oper):Nat→Nat→Nat→Bool
 |0,_,_=>false
 |n+1,i,j=>Region.waitsFor md ops i j||(List.range ops.size).any fun k=>Region.waitsFor md ops i k&&H5 md ops n k j
theorem Gi {listed:Array Bool} (hc:B6 md ops listed):∀(n i j:Nat),H5 md ops n i j=true→listed.getD i false=true→listed.getD j false=true
 |0,_,_,h,_=>by cases h
 |n+1,i,j,h,hi=>by
  unfold H5 at h;have step:∀k,Region.waitsFor md ops i k=true→listed.getD k false=true:=fun k hk=>by
   obtain⟨o,ho,e,he,hb,hon⟩:=Region.waitsFor_spec hk;rw[←hon];exact hc i o ho hi e he hb
  rw[Bool.or_eq_true]at h;rcases h with h|h
  ·exact step j h
  obtain⟨k, -,hk⟩:=List.any_eq_true.1 h;rw[Bool.and_eq_true]at hk;exact Gi hc n k j hk.2 (step k hk.1)
theorem LI {listed:Array Bool} (hc:B6 md ops listed) {i j:Nat} {o:Oper} (ho:ops[i]? =some o) (hdep:∀e∈o.after,Region.binds md e=true→listed.getD e.on false=true) (n:Nat) (h:H5 md ops n i j=true):listed.getD j false=true:=by
 cases n with
 |zero=>cases h
 |succ n=>
  unfold H5 at h;have step:∀k,Region.waitsFor md ops i k=true→listed.getD k false=true:=fun k hk=>by
   obtain⟨o',ho',e,he,hb,hon⟩:=Region.waitsFor_spec hk;obtain rfl:o=o':=SI (ho.symm.trans ho');rw[←hon];exact hdep e he hb
  rw[Bool.or_eq_true]at h;rcases h with h|h
  ·exact step j h
  obtain⟨k, -,hk⟩:=List.any_eq_true.1 h;rw[Bool.and_eq_true]at hk;exact Gi hc n k j hk.2 (step k hk.1)
def K4 (md:Region.Mode) (ops:Array Oper) (m:Nat):Bool:=(List.range m).all (I5 md ops)&&Kt md ops&&(List.range m).all (fun j=>H5 md ops m m j)&&decide (ops.size=m+1)
structure QI (md:Region.Mode) (ops:Array Oper) (m:Nat) (G:Act) (w0:World) (listed:Array Bool) (a:Act) (w:World):Prop where
 ex:∀k,(∀j o,j<m→ops[j]? =some o→o.dst=some k→listed.getD j false=true)→a.tmps[k]? =G.tmps[k]?
 sz:a.tmps.size=G.tmps.size
 df:a.defers=G.defers
 grew:A5 w0 w
 size:listed.size=ops.size
 closed:B6 md ops listed
 last:listed.getD m false=false
theorem Ks {m:Nat} {G:Act} {w0:World} {listed:Array Bool} {a:Act} {w:World} {i:Nat} {t:Tmp} {oi:Oper} (hI:QI md ops m G w0 listed a w) (hoi:ops[i]? =some oi) (hdep:∀e∈oi.after,Region.binds md e=true→listed.getD e.on false=true) (h:FX md ops i t=true):a.tmps[t]? =G.tmps[t]? :=
 hI.ex t fun j o _ ho hod=>by
  have hj:j<ops.size:=(SO.1 ho).1;have h3:=List.all_eq_true.1 h j (List.mem_range.2 hj);simp only[ho,hod]at h3;have h4:Region.waitsFor md ops i j=true:=by simpa using h3
  obtain⟨o',ho',e,he,hbd,hon⟩:=Region.waitsFor_spec h4;obtain rfl:oi=o':=SI (hoi.symm.trans ho');rw[←hon];exact hdep e he hbd
theorem Ps {m:Nat} (hB0:K4 md ops m=true) (hs:Region.noSelect ops=true) (G:Act) (w0:World)
  (hst:∀(i:Nat) (o:Oper),i<m→ops[i]? =some o→(Region.wanted o (yielded ops G.tmps)=true→∀w,A5 w0 w→o.wp P G w (fun a' w'=>a'=G∧A5 w w') (fun _ _ _=>False))∧(Region.wanted o (yielded ops G.tmps)=false→G.put o.dst undef=G))
  (T:∀w fuel,A5 w0 w→wpAny P md ops Q (fuel+1) (E7 ops.size m) G w):
  ∀fuel listed a w,QI md ops m G w0 listed a w→Dx m listed+1≤fuel→wpAny P md ops Q fuel listed a w:=by
 unfold K4 at hB0;simp only[Bool.and_eq_true,decide_eq_true_eq]at hB0;obtain⟨⟨⟨hhd,hbk⟩,hrc⟩,hsize⟩:=hB0;have hdone:∀fuel listed a w,QI md ops m G w0 listed a w→(∀j,j<m→listed.getD j false=true)→1≤fuel→wpAny P md ops Q fuel listed a w:=by
  intro fuel listed a w hI hall hf;have ha:a=G:=by
   have ht:a.tmps=G.tmps:=Array.ext_getElem? fun k=>hI.ex k fun j o hj ho _=>hall j hj
   have hd:=hI.df;cases a;cases G;simp at ht hd;rw[ht,hd]
  rw[ha,KP hI.size hall (fun i hi=>by
   by_cases him:i=m
   ·rw[him];exact hI.last
   rw[Array.getD_eq_getD_getElem?,Array.getElem?_eq_none (by rw[hI.size];omega)];rfl)]
  obtain⟨f,rfl⟩:∃f,fuel=f+1:=⟨fuel-1,by omega⟩;exact T w f hI.grew
 intro fuel
 induction fuel with
 |zero=>intro listed a w hI hc;omega
 |succ fuel ih=>
  intro listed a w hI hc;rcases Nat.eq_zero_or_pos (Dx m listed)with h0|hpos
  ·exact hdone (fuel+1) listed a w hI (ER h0) (by omega)
  obtain⟨j0,hj0,hl0⟩:=Gj hpos;refine⟨fun hr=>absurd hr (CJ hbk hI.size j0 j0 (SD _) (by omega) hl0),fun i hi=>?_⟩;obtain⟨hun,oi,hoi,hdep⟩:=mem_ready.1 hi;have hisz:i<ops.size:=(SO.1 hoi).1;have hdep':∀e∈oi.after,Region.binds md e=true→listed.getD e.on false=true:=hdep;by_cases him:i=m
  ·exfalso;subst him;have h1:=LI hI.closed hoi hdep' i (List.all_eq_true.1 hrc j0 (List.mem_range.2 hj0));rw[hl0]at h1;cases h1
  have him':i<m:=by omega
  have hun':listed.getD i false=false:=getD_both hun;have hhi:=List.all_eq_true.1 hhd i (List.mem_range.2 him');unfold I5 at hhi;simp only[hoi,Bool.and_eq_true]at hhi;obtain⟨hgd,hopr⟩:=hhi;have hc':Dx m (listed.setIfInBounds i true)+1=Dx m listed:=Gc listed m i him' (by rw[hI.size];exact hisz) hun';have hsz':(listed.setIfInBounds i true).size=ops.size:=by rw[Array.size_setIfInBounds,hI.size]
  have hwt:Region.wanted oi (yielded ops a.tmps)=Region.wanted oi (yielded ops G.tmps):=by
   unfold Region.wanted;cases hg:oi.guard with
   |none=>rfl
   |some p=>
    obtain⟨j,b⟩:=p;rw[hg]at hgd;simp only at hgd ⊢;have:yielded ops a.tmps j=yielded ops G.tmps j:=by
     unfold yielded;cases hoj:ops[j]? with
     |none=>rfl
     |some oj=>
      rw[hoj]at hgd;simp only at hgd;cases hdj:oj.dst with
      |none=>simp[hdj]
      |some t=>
       rw[hdj]at hgd;simp only[Option.bind_some,hdj];rw[Ks hI hoi hdep' hgd]
    rw[this]
  have key:∀v w',(G.put oi.dst v=G)→A5 w w'→QI md ops m G w0 (listed.setIfInBounds i true) (a.put oi.dst v) w':=fun v w' hv hg=>by
   refine⟨fun k hkk=>?_,?_,?_,hI.grew.trans hg,hsz',hI.closed.set hi,by rw[getD_set_ne false him];exact hI.last⟩
   ·cases hd:oi.dst with
    |none=>
     refine hI.ex k fun j o hjm ho hod=>?_
     have h1:=hkk j o hjm ho hod;by_cases hij:i=j
     ·subst hij;obtain rfl:oi=o:=SI (hoi.symm.trans ho);rw[hd]at hod;cases hod
     rwa[getD_set_ne false hij]at h1
    |some d=>
     rw[hd]at hv;rw[Bu];by_cases hdk:d=k
     ·subst hdk;rw[SR rfl];have h1:(G.put (some d) v).tmps[d]? =G.tmps[d]? :=by rw[hv]
      rw[Bu,SR rfl]at h1;rw[←h1,hI.sz]
     rw[SQ hdk];refine hI.ex k fun j o hjm ho hod=>?_
     have h1:=hkk j o hjm ho hod;by_cases hij:i=j
     ·subst hij;obtain rfl:oi=o:=SI (hoi.symm.trans ho);rw[hd]at hod;exact absurd (SI hod) hdk
     rwa[getD_set_ne false hij]at h1
   ·cases oi.dst with
    |none=>exact hI.sz
    |some d=>simp only[Act.put,Array.size_setIfInBounds];exact hI.sz
   cases oi.dst with
   |none=>exact hI.df
   |some d=>exact hI.df
  obtain⟨hst1,hst2⟩:=hst i oi him' hoi;unfold wpOp;simp only[hoi];rw[hwt];cases hww:Region.wanted oi (yielded ops G.tmps)with
  |true=>
   rw[SR rfl];refine .inl ?_;refine Cj (fun cs b=>Region.noSelect_spec hs i oi cs b hoi) (hst1 hww w hI.grew) (fun x hx=>?_) fun v w' hv hg=>ih _ _ _ (key v w' hv hg) (by omega)
   cases x with
   |tmp t=>
    have h1:=Array.all_eq_true'.1 hopr _ hx;simp only[Act.eval,Array.getD_eq_getD_getElem?,Ks hI hoi hdep' h1]
   |_=>rfl
  |false=>
   rw[SQ (by simp)];exact ih _ _ _ (key undef w (hst2 hww) (Sa _)) (by omega)
theorem GO {id:Nat} {a:Act} {w:World} (hm:P.follows .mixedOrders=true) (m:Nat) (vals:List Value) (G:Act) (hB0:K4 .any ops m=true) (hs:Region.noSelect ops=true) (hn:ops.size=m+1)
  (hG:G=AI (ops.toList.take m) vals a) (hH:D9 P ops w.drew G (ops.toList.take m))
  (o:Oper) (ho:ops[m]? =some o) (hgd:o.guard=none)
  (hr1:Region.ready .any ops (E7 ops.size m)=[m]) (hr2:Region.ready .any ops ((E7 ops.size m).setIfInBounds m true)=[])
  (h:∀w1,A5 w w1→o.wp P G w1 (Q .normal) Q):(Code.region id ops true).wp P Q a w:=by
 refine wp_region_any hm ?_;have hsz:G.tmps.size=a.tmps.size:=by rw[hG];exact(BH _ _ _).1
 have hdf:G.defers=a.defers:=by rw[hG];exact(BH _ _ _).2
 refine Ps (m:=m) hB0 hs G w.drew (fun i o' him ho'=>Hn hH i o' (by rw[List.getElem?_take,SR him];simpa using ho')) ?_ ops.size _ _ _ ⟨fun k hk=>?_,hsz.symm,hdf.symm,Sa _,by simp,B6.start _,getD_replicate_false _ _⟩ ?_
 ·intro w1 fuel hg;exact Iu hr1 hr2 ho hgd (h w1 ((Sd (Sa w)).trans hg)) (fuel+1) (by omega)
 ·rw[hG];refine(CN _ _ _ k fun o' ho' hod=>?_).symm;obtain⟨j,hj⟩:=List.getElem?_of_mem ho';rw[List.getElem?_take]at hj;split at hj
  ·rename_i hjm
   have:=hk j o' hjm (by simpa using hj) hod;rw[getD_replicate_false]at this;cases this
  cases hj
 have:∀k,Dx k (Array.replicate ops.size false)≤k:=by
  intro k
  induction k with
  |zero=>exact SD _
  |succ k ih=>unfold Dx;split<;>omega
 have:=this m;omega
end
end Go.Proofs.YthpflelgbadkcaaGreatDoor
