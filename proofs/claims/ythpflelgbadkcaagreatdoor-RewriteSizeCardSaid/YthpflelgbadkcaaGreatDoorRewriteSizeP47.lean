/- ref07.Cut: the first kids of a tree up to a depth. -/
import Derived.Test.YthpflelgbadkcaaGreatDoorRewriteSizeP01
import Derived.Test.YthpflelgbadkcaaGreatDoorRewriteSizeP46
import Derived.Test.YthpflelgbadkcaaGreatDoorRewriteSizeP07
import Derived.Test.YthpflelgbadkcaaGreatDoorRewriteSizeP08
import Derived.Great.BuildSlice
set_option maxRecDepth 100000
set_option maxHeartbeats 12800000
set_option linter.unusedVariables false
set_option linter.unusedSimpArgs false
namespace Go.Proofs.YthpflelgbadkcaaGreatDoor
open Go.RowKit Pl
section
variable {P:Program} {md:Region.Mode} {ops:Array Oper} {Q:Exit→Act→World→Prop} {Gs:List (Nat×(World→Prop))}
theorem NB (mid:List Nat) (s:Nat) (A:World→Prop) {i:Nat} {oi:Oper} {fuel:Nat} {listed:Array Bool} {a:Act} {w:World} (hi:ops[i]? =some oi)
  (hs:Region.noSelect ops=true) (hf:Region.free md ops listed i=true) (hr:(Region.ready md ops listed).contains i=true) (hcl:B6 md ops listed) (hK:BV Gs listed w) (hne':(Gs.map (·.1)).contains i=false)
  (k:Nat) (hm':Gs[k]? =some (s,A)) (hw:Ij md ops (s::(mid++[i]))=true) (ty:TypeId) (x:Operand) (ho:oi.op= .load ty x) (p:Addr) (hx:a.eval x= .pointer (some p)) (cs:List Value) (d:TypeDesc) (hS:∀w,A w→Nl w p cs)
  (hu:P.underlying ty=some d) (hd:d.isRow=true) (hin:(P.info? ty).map (·.size)=some cs.length)
  (hQ:∀c a w,Q (.panic c) (a.put oi.dst (.agg cs.toArray)) w→Q (.panic c) a w) (hgd:oi.guard=none)
  (h:B6 md ops (listed.setIfInBounds i true)→BV Gs (listed.setIfInBounds i true) w→Bf P md ops Q Gs fuel (listed.setIfInBounds i true) (a.put oi.dst (.agg cs.toArray)) w):Bf P md ops Q Gs (fuel+1) listed a w:=
 Fq mid s A hi hs hf hr hcl hK hne' k hm' hw hQ hgd (fun w' hA=>by
  unfold execOp;simp only[ho,hx,Instr.loadAt,Instr.sureAddr,Sem.run_bind,Sem.run_pure,Result.andThen_ok,Fo w' p ty cs d (hS w' hA) hu hd hin]) h
end
theorem Po {w:World} {base:Nat} {v:Value} {rows:List (List Value)} {cs:List Value} {b:Nat} {t:TypeId} {o:Oper} {a:Act} {K:Act→World→Prop} {Q:Exit→Act→World→Prop} (s x:Operand)
  (ho:o.op= .call { callee:= .builtin .append,args:=#[s,x],argTypes:=#[27,27] })
  (hs:a.eval s=v) (hown:BJ w base 29 11 v rows) (hx:a.eval x= .slice (some ⟨b,0,none⟩) 1 1) (hb:Ag w b t cs.toArray) (h1:∀u∈cs,u.oneCell'=true) (hl:cs.length=11)
  (hn:rows.length+1≤1099511627) (hbase:base≤w.heap.size)
  (h:∀v' w',BJ w' base 29 11 v' (rows++[cs])→AC (fun i=>v.ownBlock=some i) w w'→(v'.ownBlock=v.ownBlock∨v'.ownBlock=some w.heap.size)→K (a.put o.dst v') w'):Oper.wp Tryz.prog o a w K Q:=by
 have hr:Ch w w.heap.size 11 (.slice (some ⟨b,0,none⟩) 1 1) [cs]:=⟨_,1,rfl,SD _,fun _=>⟨b,0,rfl,hb.lt,fun j r hj=>by
  rcases j with _|j
  ·obtain rfl:cs=r:=by simpa using hj
   exact hb.rangeN 0 _ (by simp)
  simp at hj⟩⟩
 obtain⟨v',w',hrun,h2,h3,h4⟩:=GJ (P:=Tryz.prog) R6 o.type hown hr (fun r hr=>by obtain rfl:=SJ.1 hr;exact hl) (fun r hr=>by obtain rfl:=SJ.1 hr;exact h1) hn hbase;unfold Oper.wp execOp;simp only[ho,resolve,invoke,builtin,Sem.run_bind,Sem.run_pure,Result.andThen_ok,List.map_toArray,List.map_cons,List.map_nil,hs,hx,hrun];exact h v' w' h2 h3 h4
def GH (w:World) (Q:Nat→Prop) (es:List Sh) (rows:List (List Value)):Prop:=rows.length=es.length∧∀(j:Nat) (e:Sh) (cs:List Value),es[j]? =some e→rows[j]? =some cs→C5 w Q e cs
section
variable {w w':World} {Q Q':Nat→Prop} {es:List Sh} {rows:List (List Value)}
theorem GH.nil (w:World) (Q:Nat→Prop):GH w Q [] []:=⟨rfl,fun j e cs h=>by simp at h⟩
theorem GH.keep {S:Nat→Prop} (h:GH w Q es rows) (hq:∀b,Q b→b<w.heap.size∧¬S b∧Q' b) (hk:AC S w w'):GH w' Q' es rows:=⟨h.1,fun j e cs h1 h2=>C5.keep hq hk e cs (h.2 j e cs h1 h2)⟩
theorem GH.snoc {e:Sh} {cs:List Value} (h:GH w Q es rows) (he:C5 w Q e cs):GH w Q (es++[e]) (rows++[cs]):=by
 refine⟨by rw[SX,SX,h.1];rfl,fun j e' cs' h1 h2=>?_⟩;by_cases hj:j<es.length
 ·rw[List.getElem?_append_left hj]at h1;rw[List.getElem?_append_left (by rw[h.1];exact hj)]at h2;exact h.2 j e' cs' h1 h2
 rw[List.getElem?_append_right (by omega)]at h1;rw[List.getElem?_append_right (by rw[h.1];omega),h.1]at h2;cases hz:j-es.length with
 |zero=>
  rw[hz]at h1 h2;obtain rfl:e=e':=by simpa using h1
  obtain rfl:cs=cs':=by simpa using h2
  exact he
 |succ z=>rw[hz]at h1;simp at h1
theorem GH.step {B0 M:Nat} {s v':Value} {t:TypeId} {o:Obj} {e:Sh} {cs:List Value} {wr w3 w6:World} (hT:GH wr (J6 B0 M s wr.heap.size) es rows) (hM:BJ wr M t 11 s rows) (hB:B0≤M) (hM2:M≤wr.heap.size) (g3:A5 wr w3) (he:C5 w3 (CW B0 wr.heap.size w3.heap.size) e cs)
  (k6:AC (fun i=>s.ownBlock=some i) (w3.alloc o) w6) (hr:v'.ownBlock=s.ownBlock∨v'.ownBlock=some (w3.alloc o).heap.size):GH w6 (J6 B0 M v' w6.heap.size) (es++[e]) (rows++[cs]):=by
 have s3:=g3.size;have s4:(w3.alloc o).heap.size=w3.heap.size+1:=by simp
 have s6:=k6.size;have hso:∀k,s.ownBlock=some k→M≤k∧k<wr.heap.size:=hM.lt;have ga:A5 w3 (w3.alloc o):=(Sa w3).alloc o;refine GH.snoc (hT.keep (S:=fun i=>s.ownBlock=some i) (fun b hb=>?_) (Sb ((g3.trans ga).keeps (S:=fun i=>s.ownBlock=some i)) k6 fun i _ h=>h)) (C5.keep (S:=fun i=>s.ownBlock=some i) (fun b hb=>?_) (Sb (ga.keeps (S:=fun i=>s.ownBlock=some i)) k6 fun i _ h=>h) e cs he)
 ·obtain⟨h1,h2,h3⟩:=hb;refine⟨h2,h3,h1,by omega,fun h4=>?_⟩;rcases hr with hr|hr
  ·exact h3 (hr▸h4)
  rw[hr]at h4;injection h4 with h4;omega
 obtain⟨h1,h2⟩:=hb;refine⟨h2,fun h4=>?_,by omega,by omega,fun h4=>?_⟩
 ·have:=hso b h4;omega
 rcases hr with hr|hr
 ·have:=hso b (hr▸h4);omega
 rw[hr]at h4;injection h4 with h4;omega
theorem BJ.treesSh {base:Nat} {t:TypeId} {v:Value} (h:BJ w base t 11 v rows) (hl:rows.length=es.length) (hq:∀b,v.ownBlock=some b→Q b) (he:∀(j:Nat) (e:Sh) (cs:List Value),es[j]? =some e→rows[j]? =some cs→C5 w Q e cs):D6 w Q v es:=by
 obtain⟨A,c,rfl,hc,hx⟩:=h.own;refine⟨A,c,by rw[hl],by omega,fun hn=>?_⟩;obtain⟨b,o,e,hb,hcell⟩:=hx (by omega);refine⟨⟨b,o,none⟩,e,hq b hb,CB.of fun j e' hj=>?_⟩;have hjl:j<rows.length:=by rw[hl];exact(SK.1 hj).1
 refine⟨rows[j],?_,he j e' _ hj (SF hjl)⟩;rw[Nat.zero_add,Addr.add_mid];exact MT (hcell j _ (SF hjl))
end
def I6 (B0:Nat) (s:Sh) (w:World) (e':Ending) (w':World):Prop:=∃cs,e'= .returned (.agg cs.toArray)∧C5 w' (CW B0 w.heap.size w'.heap.size) s cs∧A5 w w'
theorem N8 (k:Int) (c1 c2 c3 c4 c5 c6 c7 c8 c9 vk:Value):Instr.fill (fun i=>some (i*11,11)) ((Array.range (1*11)).map (F6.cells[·%F6.cells.size]!)) [(0,.agg (BD k c1 c2 c3 c4 c5 c6 c7 c8 c9 vk).toArray)]=some (BD k c1 c2 c3 c4 c5 c6 c7 c8 c9 vk).toArray:=by kernel_rfl
theorem J8 {o:Oper} {a:Act} {w:World} {K:Act→World→Prop} {Q:Exit→Act→World→Prop} (x:Operand) (ho:o.op= .buildSlice 27 1 #[(0,x)]) {k:Int} {c1 c2 c3 c4 c5 c6 c7 c8 c9 vk:Value} (hx:a.eval x= .agg (BD k c1 c2 c3 c4 c5 c6 c7 c8 c9 vk).toArray)
  (h:K (a.put o.dst (.slice (some ⟨w.heap.size,0,none⟩) 1 1)) (w.alloc (.cells (BD k c1 c2 c3 c4 c5 c6 c7 c8 c9 vk).toArray 29))):o.wp Tryz.prog a w K Q:=by
 obtain⟨i,hi,hz,hs,hby⟩:=info_parts R6.info;refine wp_buildSlice 27 29 1 #[(0,x)] ho (BD k c1 c2 c3 c4 c5 c6 c7 c8 c9 vk).toArray i F6 Tryz.underlying27 hi hz (by rw[hs];decide) (by rw[hs];decide) ?_ h;rw[hs];simp only[List.map_toArray,List.map_cons,List.map_nil,hx];exact N8 k c1 c2 c3 c4 c5 c6 c7 c8 c9 vk
theorem PG (e:Sh) (dd:Int) (hdd:1≤dd∧dd≤100) (m:Nat) (f:Sh→Sh) (t:Sh) (B0:Nat) (ht:t= .mk e.kind ((e.kids.take m).map f)) (hm3:m≤3) (hmn:m≤e.kids.length) (hmd:0<m→1<dd) (hme:m<e.kids.length→m<3→dd≤1)
  (HIH:∀(e':Sh) (w:World) (cs:List Value),1<dd→B0≤w.heap.size→C5 w (fun b=>b<B0) e' cs→Calls Tryz.prog 6 #[.agg cs.toArray,.int .i64 (dd-1)] w (I6 B0 (f e') w))
  (w:World) (cs:List Value) (hB0:B0≤w.heap.size) (hr:C5 w (fun b=>b<B0) e cs):
  Calls Tryz.prog 6 #[.agg cs.toArray,.int .i64 dd] w (I6 B0 t w):=by
 have hones:=CT hr;obtain⟨c1,c2,c3,c4,c5,c6,c7,c8,c9,vk,rfl,ho9,hT⟩:=hr.open_;obtain⟨A,n,c,rfl,hn, -⟩:=hT.slice;rw[←hn]at hmn hme;have HT0:=S9 (fun w' (g:A5 w w')=>D6.keep (S:=fun _=>False) (Q':=fun b=>b<B0) hT (fun b hb=>⟨by omega,fun h=>h,hb⟩) g);have HN:=S9 hn;have HB0:=S9 hB0;have HO9:=S9 ho9;have HOe:=S9 hones;have HTt:=S9 ht;have HIHh:=S9 HIH;obtain⟨hb1,hb2,hG⟩:=Bz w 29 29 (BD e.kind c1 c2 c3 c4 c5 c6 c7 c8 c9 (.slice A n c)).toArray (AH 0 0).toArray;have hs2:((w.alloc (.cells (BD e.kind c1 c2 c3 c4 c5 c6 c7 c8 c9 (.slice A n c)).toArray 29)).alloc (.cells (AH 0 0).toArray 29)).heap.size=w.heap.size+2:=by simp
 clear hr hT hn hB0 ho9 ht HIH hones;go_enter Tryz.func6,Tryz.ntmps6;go_upto_region 1 with fail;change Code.wp _ _ _ _ ((w.alloc (.cells (BD e.kind c1 c2 c3 c4 c5 c6 c7 c8 c9 (.slice A n c)).toArray 29)).alloc (.cells (AH 0 0).toArray 29));generalize (w.alloc (.cells (BD e.kind c1 c2 c3 c4 c5 c6 c7 c8 c9 (.slice A n c)).toArray 29)).alloc (.cells (AH 0 0).toArray 29)=w1 at*;have HS2:=S9 hs2;have HB12:=S9 (SC hb1 (SC hb2 hG));clear hb2 hG hs2;go_upto_region 2 with(first|((with_reducible refine AG 29 (.tmp 2) rfl ?_);refine BR 29 Tryz.underlying29 rfl (.tmp 2) (w.heap.size) (BD e.kind c1 c2 c3 c4 c5 c6 c7 c8 c9 (.slice A n c)) 29 AD rfl rfl rfl hb1 ?_)|((with_reducible refine AF 29 (.tmp 5) (.tmp 7) rfl ?_);refine Ar 29 (.tmp 5) (.tmp 7) (w1.heap.size) (BD e.kind c1 c2 c3 c4 c5 c6 c7 c8 c9 (.slice A n c)) (AH 0 0) 29 AD rfl HOe.out rfl rfl rfl rfl (Sc w1 29 _) ?_;intro w5 hb5 k5 d5;have HB5:=S9 hb5;have HG5:=S9 (show A5 w1 w5 from Sb ((Sa w1).alloc _) k5 (fun i hi e=>by omega));clear k5 d5 hb5));have c10:w5.cell? ⟨w1.heap.size,10,none⟩=some (.slice A n c):=HB5.out.cell 10;have f10:w5.frozen? ⟨w1.heap.size,10,none⟩=false:=HB5.out.frozen 10;have hb6:Ag (w5.setCell ⟨w1.heap.size,10,none⟩ (.slice none 0 0)) w1.heap.size 29 (BD e.kind c1 c2 c3 c4 c5 c6 c7 c8 c9 (.slice none 0 0)).toArray:=HB5.out.set_ 10 (.slice none 0 0);have k6:AC (fun i=>i=w1.heap.size) w5 (w5.setCell ⟨w1.heap.size,10,none⟩ (.slice none 0 0)):=Sf (S:=fun i=>i=w1.heap.size) (p:=⟨w1.heap.size,10,none⟩) (Se _ w5) (.inl rfl) _;have hs6:(w5.setCell ⟨w1.heap.size,10,none⟩ (.slice none 0 0)).heap.size=w5.heap.size:=by simp
 have HE6:=S9 (SC hb6 (SC k6 hs6));have HZ5:=S9 HB5.out.lt;clear hb6 k6 hs6 hb1;go_upto_region 3 with fail;generalize w5.setCell ⟨w1.heap.size,10,none⟩ (.slice none 0 0)=w6 at*;obtain⟨zo,hzo⟩:∃z,w1.heap.size=z:=⟨_,rfl⟩;rw[hzo]at HE6 HS2 HZ5 ⊢;clear c10 f10;have hsz6:zo<w6.heap.size:=by have:=HE6.out.2.2;have:=HZ5.out;omega
 have HG6:=S9 (show A5 w w6 from Sb (HB12.out.2.2.trans HG5.out) HE6.out.2.1 fun i hi e=>by have:=HS2.out;omega);have HBe6:=S9 ((HB12.out.1.grew HG5.out).keep HE6.out.2.1 (fun e=>by have:=HS2.out;omega));have HBr6:=S9 ((HB12.out.2.1.grew HG5.out).keep HE6.out.2.1 (fun e=>by have:=HS2.out;omega));have HBo6:=S9 HE6.out.1;obtain⟨M,hMM⟩:∃M,w6.heap.size=M:=⟨_,rfl⟩;rw[hMM]at hsz6;have HZ:=S9 (show zo<M∧w.heap.size+2=zo from⟨hsz6,HS2.out.symm⟩);have HMM:=S9 hMM;clear hsz6 hMM HE6 HZ5 HB5 HG5 hzo;go_wp2_with fail;go_loopw [6] (fun i wr=>∃(j:Nat) (so:Value) (rows:List (List Value)),j≤m∧i= .int .i64 (j:Nat)∧BJ wr M 29 11 so rows∧GH wr (J6 B0 M so wr.heap.size) ((e.kids.take j).map f) rows∧Ag wr zo 29 (BD e.kind c1 c2 c3 c4 c5 c6 c7 c8 c9 so).toArray∧AC (fun b=>b=zo∨M≤b) w6 wr) (fun i _=>m-(intOf i).toNat)
 case atStart=>exact⟨0,.slice none 0 0,[],by omega,rfl,BJ.nil _ _ _ _,by simpa using GH.nil _ _,HBo6.out,Se _ _⟩
 case round=>
  obtain⟨j,so,rows,hj,rfl,hM,hTs,hbo,hk⟩:=hrel;have HM:=S9 hM;have HT:=S9 hTs;have HBo:=S9 hbo;have HK:=S9 hk;have HSz:=S9 (show M≤wr.heap.size by have:=hk.size;have:=HMM.out;omega);have HBe:=S9 (HBe6.out.keep hk (fun e=>by have:=HZ.out;omega));have HBr:=S9 (HBr6.out.keep hk (fun e=>by have:=HZ.out;omega));have HGr:=S9 (show A5 w wr from Sb HG6.out hk fun i hi e=>by have:=HZ.out;omega);have ce:wr.cell? ⟨w.heap.size,10,none⟩=some (.slice A n c):=HBe.out.cell 10;clear hM hTs hbo hk;by_cases hlt:j<m
  ·have hjn:j<n:=by omega
   have hj3:j<3:=by omega
   have hd1:1<dd:=hmd (by omega);have t1:decide (((j:Nat):Int)<(n:Nat))=true:=by rw[decide_eq_true_iff];omega
   have t2:decide (((j:Nat):Int)<3)=true:=by rw[decide_eq_true_iff];omega
   have t3:decide (dd>1)=true:=by rw[decide_eq_true_iff];omega
   have hjl:j<e.kids.length:=by rw[←HN.out];exact hjn
   obtain⟨e',he'⟩:∃e',e.kids[j]? =some e':=⟨_,SF hjl⟩;obtain⟨x,cs',rfl,hb,hrg,hre⟩:=(HT0.out wr HGr.out).at_ he';have HJ:=S9 (show((e.kids.take j).map f).length=j by rw[List.length_map,List.length_take];omega);have HE:=S9 he';have HLc:=S9 (show cs'.length=11 by obtain⟨_,_,_,_,_,_,_,_,_,_,h, -⟩:=hre.open_;rw[h];rfl);have HRg:=S9 (fun w' (g:A5 wr.drew w')=>hrg.keep (S:=fun _=>False) (by rw[D8];have:=HB0.out;have:=HGr.out.size;omega) ((Sd (Sa wr)).trans g) (fun h=>h));have HI:=S9 (HIHh.out e' wr.drew cs' hd1 (by have:=HB0.out;have:=HGr.out.size;show B0≤wr.heap.size;omega) (C5.keep (S:=fun _=>False) (fun b hb=>⟨by have:=HB0.out;have:=HGr.out.size;omega,fun h=>h,hb⟩) (Sd (Sa wr)) e' cs' hre));have hw1:IntKind.i64.wrap (dd-1)=dd-1:=IntWalk.i64_in _ (by omega);have hw2:IntKind.i64.wrap (((j:Nat):Int)+1)=((j:Nat):Int)+1:=IntWalk.i64_in _ (by omega);have i1:(0:Int)≤(j:Nat):=by omega
   have i2:((j:Nat):Int)<(n:Nat):=by omega
   clear hjl he' hb hrg hre;go_upto_region 6 with fail;refine B8 [(11,fun w'=>A5 wr.drew w')] (by kernel_rfl) (by intro pp hp;obtain rfl:=SJ.1 hp;exact Sa _) ?_;intro hcl hkn
   try simp only[List.getElem_toArray,List.getElem_cons_zero,List.getElem_cons_succ,Act.put,List.setIfInBounds_toArray,List.set_cons_zero,List.set_cons_succ]
   refine' B1 (i:=0) (v:=_) rfl (by kernel_rfl) (by kernel_rfl) (by kernel_rfl) hcl hkn (by rfl) (fun _ _ _ h=>h) rfl ?_ ?_
   rotate_left
   ·intro w';go_simp;try with_reducible rfl
   clear hcl hkn;intro hcl hkn
   try simp only[List.getElem_toArray,List.getElem_cons_zero,List.getElem_cons_succ,Act.put,List.setIfInBounds_toArray,List.set_cons_zero,List.set_cons_succ]
   refine' Fq [] 11 _ (i:=1) (v:=_) rfl (by kernel_rfl) (by kernel_rfl) (by kernel_rfl) hcl hkn (by rfl) 0 rfl (by kernel_rfl) (fun _ _ _ h=>h) rfl ?_ ?_
   rotate_left
   ·intro w' hA;have hc:w'.cell? ⟨zo,10,none⟩=some so:=((HBo.out.drew).grew hA).cell 10;go_simp;try with_reducible rfl
   clear hcl hkn;intro hcl hkn
   try simp only[List.getElem_toArray,List.getElem_cons_zero,List.getElem_cons_succ,Act.put,List.setIfInBounds_toArray,List.set_cons_zero,List.set_cons_succ]
   refine' B1 (i:=2) (v:=_) rfl (by kernel_rfl) (by kernel_rfl) (by kernel_rfl) hcl hkn (by rfl) (fun _ _ _ h=>h) rfl ?_ ?_
   rotate_left
   ·intro w';go_simp;try with_reducible rfl
   clear hcl hkn;intro hcl hkn
   try simp only[List.getElem_toArray,List.getElem_cons_zero,List.getElem_cons_succ,Act.put,List.setIfInBounds_toArray,List.set_cons_zero,List.set_cons_succ]
   refine' Fq [10,9,6,5] 11 _ (i:=3) (v:=_) rfl (by kernel_rfl) (by kernel_rfl) (by kernel_rfl) hcl hkn (by rfl) 0 rfl (by kernel_rfl) (fun _ _ _ h=>h) rfl ?_ ?_
   rotate_left
   ·intro w' hA;have hc:w'.cell? ⟨w.heap.size,10,none⟩=some (.slice (some x) n c):=((HBe.out.drew).grew hA).cell 10;go_simp;try with_reducible rfl
   clear hcl hkn;intro hcl hkn
   try simp only[List.getElem_toArray,List.getElem_cons_zero,List.getElem_cons_succ,Act.put,List.setIfInBounds_toArray,List.set_cons_zero,List.set_cons_succ]
   refine' B1 (i:=4) (v:=_) rfl (by kernel_rfl) (by kernel_rfl) (by kernel_rfl) hcl hkn (by rfl) (fun _ _ _ h=>h) rfl ?_ ?_
   rotate_left
   ·intro w';go_simp;try with_reducible rfl
   clear hcl hkn;intro hcl hkn
   try simp only[List.getElem_toArray,List.getElem_cons_zero,List.getElem_cons_succ,Act.put,List.setIfInBounds_toArray,List.set_cons_zero,List.set_cons_succ]
   refine' B1 (i:=5) (v:=_) rfl (by kernel_rfl) (by kernel_rfl) (by kernel_rfl) hcl hkn (by rfl) (fun _ _ _ h=>h) rfl ?_ ?_
   rotate_left
   ·intro w';go_simp;try with_reducible rfl
   clear hcl hkn;intro hcl hkn
   try simp only[List.getElem_toArray,List.getElem_cons_zero,List.getElem_cons_succ,Act.put,List.setIfInBounds_toArray,List.set_cons_zero,List.set_cons_succ]
   refine NB [10,9] 11 _ (i:=6) rfl (by kernel_rfl) (by kernel_rfl) (by kernel_rfl) hcl hkn (by rfl) 0 rfl (by kernel_rfl) 29 (.tmp 29) rfl (x.add (j*11)) rfl cs' _ (fun w' hA=>HRg.out w' hA) Tryz.underlying29 rfl (by rw[HLc.out];exact AD) (fun _ _ _ h=>h) rfl ?_;clear hcl hkn;intro hcl hkn
   try simp only[List.getElem_toArray,List.getElem_cons_zero,List.getElem_cons_succ,Act.put,List.setIfInBounds_toArray,List.set_cons_zero,List.set_cons_succ]
   refine' B1 (i:=7) (v:=_) rfl (by kernel_rfl) (by kernel_rfl) (by kernel_rfl) hcl hkn (by rfl) (fun _ _ _ h=>h) rfl ?_ ?_
   rotate_left
   ·intro w';go_simp;try with_reducible rfl
   clear hcl hkn;intro hcl hkn
   try simp only[List.getElem_toArray,List.getElem_cons_zero,List.getElem_cons_succ,Act.put,List.setIfInBounds_toArray,List.set_cons_zero,List.set_cons_succ]
   refine' B1 (i:=8) (v:=_) rfl (by kernel_rfl) (by kernel_rfl) (by kernel_rfl) hcl hkn (by rfl) (fun _ _ _ h=>h) rfl ?_ ?_
   rotate_left
   ·intro w';go_simp;try with_reducible rfl
   clear hcl hkn;intro hcl hkn
   try simp only[List.getElem_toArray,List.getElem_cons_zero,List.getElem_cons_succ,Act.put,List.setIfInBounds_toArray,List.set_cons_zero,List.set_cons_succ]
   refine AV hcl (i:=9) (by kernel_rfl) rfl rfl (fun K hK=>?_);go_simp;(with_reducible refine HI.out.mono ?_);rintro e4 w4 ⟨cs3,rfl,hr3,k4⟩;obtain⟨d1,d2,d3,d4,d5,d6,d7,d8,d9,dk,hcs3, -,hT3⟩:=hr3.open_;subst hcs3;obtain⟨A3,n3,c3',rfl, -⟩:=hT3.slice;clear hT3;have HR3:=S9 hr3;have HO3:=S9 (CT hr3);refine hK _ _ (AJ (.inr k4)) ?_;clear hK K;clear hcl hkn;intro hcl hkn
   try simp only[List.getElem_toArray,List.getElem_cons_zero,List.getElem_cons_succ,Act.put,List.setIfInBounds_toArray,List.set_cons_zero,List.set_cons_succ]
   refine AV hcl (i:=10) (by kernel_rfl) rfl rfl (fun K hK=>?_);refine J8 (.tmp 33) rfl rfl ?_;refine hK _ _ (AJ (.inr (k4.alloc _))) ?_;clear hK K;clear hcl hkn;intro hcl hkn
   try simp only[List.getElem_toArray,List.getElem_cons_zero,List.getElem_cons_succ,Act.put,List.setIfInBounds_toArray,List.set_cons_zero,List.set_cons_succ]
   refine AV hcl (i:=11) (by kernel_rfl) rfl rfl (fun K hK=>?_);refine Po (.tmp 25) (.tmp 34) rfl rfl (((HM.out.grew (Sd (Sa wr))).grew k4).alloc _) rfl (Sc w4 29 (BD (f e').kind d1 d2 d3 d4 d5 d6 d7 d8 d9 (.slice A3 n3 c3')).toArray) HO3.out rfl (by have h1:=HT.out.1;have h2:=HJ.out;rw[h1,h2];omega) (by have h1:=k4.size;have h2:=HSz.out;have h3:wr.drew.heap.size=wr.heap.size:=rfl;simp only[World.size_alloc];omega) ?_;intro v8 w8 hM8 k8 ho8;obtain⟨A8,n8,q8,rfl, -, -⟩:=hM8.slice;refine hK _ _ (AJ (.inl (by kernel_rfl))) ?_;clear hK K;clear hcl hkn;intro hcl hkn
   try simp only[List.getElem_toArray,List.getElem_cons_zero,List.getElem_cons_succ,Act.put,List.setIfInBounds_toArray,List.set_cons_zero,List.set_cons_succ]
   have hown:∀b,so.ownBlock=some b→M≤b:=fun b hb=>(HM.out.lt b hb).1
   have hb8:Ag w8 zo 29 (BD e.kind c1 c2 c3 c4 c5 c6 c7 c8 c9 so).toArray:=((HBo.out.drew.grew k4).alloc _).keep k8 (fun e=>by have:=hown _ e;have:=HZ.out;omega);have c8r:w8.cell? ⟨zo,10,none⟩=some so:=hb8.cell 10;have f8r:w8.frozen? ⟨zo,10,none⟩=false:=hb8.frozen 10;have HB8:=S9 hb8;have HM8:=S9 (SC hM8 (SC k8 ho8));have HK4:=S9 k4;clear hb8 hM8 k8 ho8 k4 hown;refine AV hcl (i:=12) (by kernel_rfl) rfl rfl (fun K hK=>?_);go_simp;refine hK _ _ (AJ (.inl (by kernel_rfl))) ?_;clear hK K;clear hcl hkn;intro hcl hkn
   try simp only[List.getElem_toArray,List.getElem_cons_zero,List.getElem_cons_succ,Act.put,List.setIfInBounds_toArray,List.set_cons_zero,List.set_cons_succ]
   refine AV hcl (i:=13) (by kernel_rfl) rfl rfl (fun K hK=>?_);go_simp;refine hK _ _ (AJ (.inl (by kernel_rfl))) ?_;clear hK K;clear hcl hkn;intro hcl hkn
   try simp only[List.getElem_toArray,List.getElem_cons_zero,List.getElem_cons_succ,Act.put,List.setIfInBounds_toArray,List.set_cons_zero,List.set_cons_succ]
   refine BK (by kernel_rfl) ?_ _;clear hcl hkn c8r f8r;go_wp2_with fail;go_roundw
   case rel=>
    obtain⟨hM8,k8,ho8⟩:=HM8.out;have k9:AC (fun i=>i=zo) w8 (w8.setCell ⟨zo,10,none⟩ (.slice A8 n8 q8)):=Sf (S:=fun i=>i=zo) (p:=⟨zo,10,none⟩) (Se _ w8) (.inl rfl) _;have hown8:∀b,(Value.slice A8 n8 q8).ownBlock=some b→M≤b:=fun b hb=>(hM8.lt b hb).1
    have hz:=HZ.out;have hts:=HT.out.step HM.out (by have:=HB0.out;omega) HSz.out ((Sd (Sa wr)).trans HK4.out) HR3.out k8 ho8;have hes:(e.kids.take j).map f++[f e']=(e.kids.take (j+1)).map f:=by rw[List.take_add_one,HE.out];simp
    rw[hes]at hts;refine⟨j+1,.slice A8 n8 q8,_,by omega,by go_num,hM8.keep k9 (fun b hb e=>by have:=hown8 b hb;omega),hts.keep (S:=fun i=>i=zo) (fun b hb=>⟨hb.2.1,fun h=>by rcases hb.1 with h1|h1<;>(have:=HB0.out;omega),hb.1,by simpa using hb.2.1,hb.2.2⟩) k9,HB8.out.set_ 10 (.slice A8 n8 q8),?_⟩;refine Sb (Sb (Sb HK.out (Si (((Sd (Sa wr)).trans HK4.out).alloc _)) fun i _ h=>h) k8 fun i _ h=> .inr (HM.out.lt i h).1) k9 fun i _ h=> .inl h
   case measure=>simp[intOf];omega
  obtain rfl:j=m:=by omega
  have hown:∀b,so.ownBlock=some b→M≤b∧b<wr.heap.size:=HM.out.lt;have HOs:=S9 (show ∀v∈BD e.kind c1 c2 c3 c4 c5 c6 c7 c8 c9 so,v.oneCell'=true from by
   obtain⟨As,ns,ks,rfl, -⟩:=HM.out.slice;intro v hv;have h9:=HO9.out;simp only[BD,List.mem_cons,List.not_mem_nil,or_false]at hv h9;rcases hv with rfl|h2|h2|h2|h2|h2|h2|h2|h2|h2|rfl
   ·rfl
   all_goals first|rfl|(exact h9 v (by simp[h2])))
  have HFIN:=S9 (show ∀w8,AC (fun i=>i=w.heap.size+1) wr w8→I6 B0 t w (.returned (.agg (BD e.kind c1 c2 c3 c4 c5 c6 c7 c8 c9 so).toArray)) w8 from fun w8 k8=>by
   have hz:=HZ.out;have h0:=HB0.out;have hsz:=HSz.out;have h8:=k8.size;refine⟨BD e.kind c1 c2 c3 c4 c5 c6 c7 c8 c9 so,rfl,?_,Sb HGr.out k8 fun i hi e=>by omega⟩;rw[HTt.out];refine C5.mk_ (e:= .mk e.kind ((e.kids.take j).map f)) HO9.out ?_;refine D6.keep (S:=fun i=>i=w.heap.size+1) (Q:=CW B0 M wr.heap.size) (HM.out.treesSh HT.out.1 (fun b hb=>⟨.inr (hown b hb).1,(hown b hb).2⟩) fun i e' cs h1 h2=>C5.keep (S:=fun _=>False) (fun b hb=>⟨hb.2.1,fun h=>h,hb.1,hb.2.1⟩) (Sa wr) e' cs (HT.out.2 i e' cs h1 h2)) (fun b hb=>⟨hb.2,fun h=>by rcases hb.1 with h1|h1<;>omega,by rcases hb.1 with h1|h1;exact .inl h1;exact .inr (by omega),by have:=hb.2;omega⟩) k8)
  have i1:(0:Int)≤(j:Nat):=by omega
  clear hown;by_cases hjn:j<n
  ·have t1:decide (((j:Nat):Int)<(n:Nat))=true:=by rw[decide_eq_true_iff];omega
   by_cases hj3:j<3
   ·have t2:decide (((j:Nat):Int)<3)=true:=by rw[decide_eq_true_iff];omega
    have t3:decide (dd>1)=false:=by rw[decide_eq_false_iff_not];have:=hme hjn hj3;omega
    go_wp2_with(first|((with_reducible refine AG 29 (.tmp 5) rfl ?_);refine BR 29 Tryz.underlying29 rfl (.tmp 5) zo (BD e.kind c1 c2 c3 c4 c5 c6 c7 c8 c9 so) 29 AD rfl rfl rfl HBo.out ?_)|((with_reducible refine AF 29 (.tmp 4) (.tmp 37) rfl ?_);refine Ar 29 (.tmp 4) (.tmp 37) (w.heap.size+1) (BD e.kind c1 c2 c3 c4 c5 c6 c7 c8 c9 so) (AH 0 0) 29 AD rfl HOs.out rfl rfl rfl rfl HBr.out ?_;intro w8 hb8 k8 d8));refine bodyPost_ret (AP rfl rfl AD Tryz.underlying29 rfl hb8) rfl ?_;exact HFIN.out w8 k8
   have t2:decide (((j:Nat):Int)<3)=false:=by rw[decide_eq_false_iff_not];omega
   go_wp2_with(first|((with_reducible refine AG 29 (.tmp 5) rfl ?_);refine BR 29 Tryz.underlying29 rfl (.tmp 5) zo (BD e.kind c1 c2 c3 c4 c5 c6 c7 c8 c9 so) 29 AD rfl rfl rfl HBo.out ?_)|((with_reducible refine AF 29 (.tmp 4) (.tmp 37) rfl ?_);refine Ar 29 (.tmp 4) (.tmp 37) (w.heap.size+1) (BD e.kind c1 c2 c3 c4 c5 c6 c7 c8 c9 so) (AH 0 0) 29 AD rfl HOs.out rfl rfl rfl rfl HBr.out ?_;intro w8 hb8 k8 d8));refine bodyPost_ret (AP rfl rfl AD Tryz.underlying29 rfl hb8) rfl ?_;exact HFIN.out w8 k8
  have t1:decide (((j:Nat):Int)<(n:Nat))=false:=by rw[decide_eq_false_iff_not];omega
  go_wp2_with(first|((with_reducible refine AG 29 (.tmp 5) rfl ?_);refine BR 29 Tryz.underlying29 rfl (.tmp 5) zo (BD e.kind c1 c2 c3 c4 c5 c6 c7 c8 c9 so) 29 AD rfl rfl rfl HBo.out ?_)|((with_reducible refine AF 29 (.tmp 4) (.tmp 37) rfl ?_);refine Ar 29 (.tmp 4) (.tmp 37) (w.heap.size+1) (BD e.kind c1 c2 c3 c4 c5 c6 c7 c8 c9 so) (AH 0 0) 29 AD rfl HOs.out rfl rfl rfl rfl HBr.out ?_;intro w8 hb8 k8 d8));refine bodyPost_ret (AP rfl rfl AD Tryz.underlying29 rfl hb8) rfl ?_;exact HFIN.out w8 k8
theorem Mm:∀(d:Nat) (e:Sh) (dd:Int),dd=(d:Nat)+1→d≤50→∀(w:World) (B0:Nat) (cs:List Value),B0≤w.heap.size→C5 w (fun b=>b<B0) e cs→
  Calls Tryz.prog 6 #[.agg cs.toArray,.int .i64 dd] w (I6 B0 (cutS d e) w)
 |0,e,dd,hdd,_,w,B0,cs,hB,hr=>PG e dd (by omega) 0 (fun s=>s) _ B0 rfl (by omega) (by omega) (by omega) (fun _ _=>by omega) (fun _ _ _ h _ _=>by omega) w cs hB hr
 |d+1,e,dd,hdd,hd,w,B0,cs,hB,hr=>by
  have h1:cutS (d+1) e= .mk e.kind ((e.kids.take (min e.kids.length 3)).map (cutS d)):=by
   show Sh.mk e.kind ((e.kids.take 3).map (cutS d))=_;congr 2;by_cases h:e.kids.length≤3
   ·rw[Nat.min_eq_left h,List.take_of_length_le h,List.take_of_length_le (SD _)]
   rw[Nat.min_eq_right (by omega)]
  exact PG e dd (by omega) (min e.kids.length 3) (cutS d) _ B0 h1 (by omega) (by omega) (by omega) (fun h1 h2=>by omega) (fun e' w cs _ hB hr=>Mm d e' (dd-1) (by omega) (by omega) w B0 cs hB hr) w cs hB hr
end Go.Proofs.YthpflelgbadkcaaGreatDoor
