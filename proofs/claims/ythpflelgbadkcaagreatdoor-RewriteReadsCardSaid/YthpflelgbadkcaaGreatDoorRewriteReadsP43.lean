/- What the card of the law stands on: CutW, PlTreeA, Visit, LateI. -/
import Derived.Test.YthpflelgbadkcaaGreatDoorRewriteReadsP42
import Derived.Test.YthpflelgbadkcaaGreatDoorRewriteReadsP07
import Derived.Test.YthpflelgbadkcaaGreatDoorRewriteReadsP08
import Derived.Great.BuildSlice
import Derived.Test.YthpflelgbadkcaaGreatDoorRewriteReadsP06
import Derived.Test.YthpflelgbadkcaaGreatDoorRewriteReadsP34
import Derived.Test.YthpflelgbadkcaaGreatDoorRewriteReadsP35
import Derived.Test.YthpflelgbadkcaaGreatDoorRewriteReadsP01
import Derived.RangeFuncNested
import Derived.RangeFuncCalls
import Derived.OwnWalkIn
set_option maxRecDepth 100000
set_option maxHeartbeats 12800000
set_option linter.unusedVariables false
set_option linter.unusedSimpArgs false
namespace Go.Proofs.YthpflelgbadkcaaGreatDoor
open Go.RowKit Pl
section
variable {P:Program} {md:Region.Mode} {ops:Array Oper} {Q:Exit→Act→World→Prop} {Gs:List (Nat×(World→Prop))}
theorem NB (mid:List Nat) (s:Nat) (A:World→Prop) {i:Nat} {oi:Oper} {fuel:Nat} {listed:Array Bool} {a:Act} {w:World} (hi:ops[i]? =some oi)
  (hs:Region.noSelect ops=true) (hf:Region.free md ops listed i=true) (hr:(Region.ready md ops listed).contains i=true) (hcl:B6 md ops listed) (hK:BV Gs listed w) (hne':(Gs.map (·.1)).contains i=false)
  (k:Nat) (hm':Gs[k]? =some (s,A)) (hw:Ij md ops (s::(mid++[i]))=true) (ty:TypeId) (x:Operand) (ho:oi.op= .load ty x) (p:Addr) (hx:a.eval x= .pointer (some p)) (cs:List Value) (d:TypeDesc) (hS:∀w,A w→Nl w p cs)
  (hu:P.underlying ty=some d) (hd:d.isRow=true) (hin:(P.info? ty).map (·.size)=some cs.length)
  (hQ:∀c a w,Q (.panic c) (a.put oi.dst (.agg cs.toArray)) w→Q (.panic c) a w) (hgd:oi.guard=none)
  (h:B6 md ops (listed.setIfInBounds i true)→BV Gs (listed.setIfInBounds i true) w→Bf P md ops Q Gs fuel (listed.setIfInBounds i true) (a.put oi.dst (.agg cs.toArray)) w):Bf P md ops Q Gs (fuel+1) listed a w:=
 Fq mid s A hi hs hf hr hcl hK hne' k hm' hw hQ hgd (fun w' hA=>by
  unfold execOp;simp only[ho,hx,Instr.loadAt,Instr.sureAddr,Sem.run_bind,Sem.run_pure,Result.andThen_ok,Fo w' p ty cs d (hS w' hA) hu hd hin]) h
end
theorem Po {w:World} {base:Nat} {v:Value} {rows:List (List Value)} {cs:List Value} {b:Nat} {t:TypeId} {o:Oper} {a:Act} {K:Act→World→Prop} {Q:Exit→Act→World→Prop} (s x:Operand)
  (ho:o.op= .call { callee:= .builtin .append,args:=#[s,x],argTypes:=#[27,27] })
  (hs:a.eval s=v) (hown:BJ w base 29 11 v rows) (hx:a.eval x= .slice (some ⟨b,0,none⟩) 1 1) (hb:Ag w b t cs.toArray) (h1:∀u∈cs,u.oneCell'=true) (hl:cs.length=11)
  (hn:rows.length+1≤1099511627) (hbase:base≤w.heap.size)
  (h:∀v' w',BJ w' base 29 11 v' (rows++[cs])→AC (fun i=>v.ownBlock=some i) w w'→(v'.ownBlock=v.ownBlock∨v'.ownBlock=some w.heap.size)→K (a.put o.dst v') w'):Oper.wp Tryz.prog o a w K Q:=by
 have hr:Ch w w.heap.size 11 (.slice (some ⟨b,0,none⟩) 1 1) [cs]:=⟨_,1,rfl,SD _,fun _=>⟨b,0,rfl,hb.lt,fun j r hj=>by
  rcases j with _|j
  ·obtain rfl:cs=r:=by simpa using hj
   exact hb.rangeN 0 _ (by simp)
  simp at hj⟩⟩
 obtain⟨v',w',hrun,h2,h3,h4⟩:=GJ (P:=Tryz.prog) R6 o.type hown hr (fun r hr=>by obtain rfl:=SJ.1 hr;exact hl) (fun r hr=>by obtain rfl:=SJ.1 hr;exact h1) hn hbase;unfold Oper.wp execOp;simp only[ho,resolve,invoke,builtin,Sem.run_bind,Sem.run_pure,Result.andThen_ok,List.map_toArray,List.map_cons,List.map_nil,hs,hx,hrun];exact h v' w' h2 h3 h4
section
variable {w w':World} {Q Q':Nat→Prop} {es:List Sh} {rows:List (List Value)}
end
theorem N8 (k:Int) (c1 c2 c3 c4 c5 c6 c7 c8 c9 vk:Value):Instr.fill (fun i=>some (i*11,11)) ((Array.range (1*11)).map (F6.cells[·%F6.cells.size]!)) [(0,.agg (BD k c1 c2 c3 c4 c5 c6 c7 c8 c9 vk).toArray)]=some (BD k c1 c2 c3 c4 c5 c6 c7 c8 c9 vk).toArray:=by kernel_rfl
theorem J8 {o:Oper} {a:Act} {w:World} {K:Act→World→Prop} {Q:Exit→Act→World→Prop} (x:Operand) (ho:o.op= .buildSlice 27 1 #[(0,x)]) {k:Int} {c1 c2 c3 c4 c5 c6 c7 c8 c9 vk:Value} (hx:a.eval x= .agg (BD k c1 c2 c3 c4 c5 c6 c7 c8 c9 vk).toArray)
  (h:K (a.put o.dst (.slice (some ⟨w.heap.size,0,none⟩) 1 1)) (w.alloc (.cells (BD k c1 c2 c3 c4 c5 c6 c7 c8 c9 vk).toArray 29))):o.wp Tryz.prog a w K Q:=by
 obtain⟨i,hi,hz,hs,hby⟩:=info_parts R6.info;refine wp_buildSlice 27 29 1 #[(0,x)] ho (BD k c1 c2 c3 c4 c5 c6 c7 c8 c9 vk).toArray i F6 Tryz.underlying27 hi hz (by rw[hs];decide) (by rw[hs];decide) ?_ h;rw[hs];simp only[List.map_toArray,List.map_cons,List.map_nil,hx];exact N8 k c1 c2 c3 c4 c5 c6 c7 c8 c9 vk
end Go.Proofs.YthpflelgbadkcaaGreatDoor
namespace Go.Proofs.YthpflelgbadkcaaGreatDoor
open Go.RowKit Go.Shelf Pl
theorem UR (k:Int) (hk:0≤k∧k≤3) (w:World):Calls Tryz.prog 104 #[.int .i64 k] w fun e w'=>e= .returned (.int .i64 (Ty k))∧A5 w w':=by
 have h4:k=0∨k=1∨k=2∨k=3:=by omega
 rcases h4 with rfl|rfl|rfl|rfl
 all_goals
  go_enter Tryz.func104,Tryz.ntmps104;go_wp2_with fail;go_ret;exact⟨rfl,Sa _⟩
theorem Tp {e:Ex} (h:Bj e=0):0≤e.kind∧e.kind≤3:=by
 have h1:=Ci h;unfold BN at h1;simp only[Bool.and_eq_true,Bool.or_eq_true,decide_eq_true_eq]at h1;rcases h1.1.1.1 with((⟨⟨h2, -⟩, -⟩|⟨h2, -⟩)|⟨h2, -⟩)|⟨h2, -⟩<;>omega
theorem Ut (w:World):(sizeOf 29).run Tryz.prog w= .ok 11 w:=by kernel_rfl
theorem Uv:Tryz.prog.elem 27=29:=by kernel_rfl
theorem Tb:Tryz.prog.underlying 27=some (.slice (Tryz.prog.elem 27)):=by kernel_rfl
theorem US {o:Oper} {a:Act} (x y:Operand) (ho:o.op= .slice 27 x (some y) none none) {A:Option Addr} {n c r:Nat} (hx:a.eval x= .slice A n c) (hy:a.eval y= .int .i64 (r:Nat)) (hr:r≤n):∀w,(execOp a.eval o).run Tryz.prog w= .ok (.value (sliced A r n c 11)) w:=fun w=>by
 unfold execOp;have e2:(Instr.sliceAt 27 (.slice A n c) (some (.int .i64 (r:Nat))) none none).run Tryz.prog w= .ok (sliced A r n c 11) w:=by
  rw[run_sliceAt_slice (h:=Tb),run_slice_l (ht:=Tb) (h0:=by omega) (h1:=by omega),Uv,Ut,Result.andThen_ok,Int.toNat_natCast]
 simp only[ho,hx,hy,Option.map,Sem.run_bind,Sem.run_pure,e2,Result.andThen_ok]
theorem UY {o:Oper} {a:Act} (x y:Operand) (ho:o.op= .slice 27 x none (some y) none) {A:Option Addr} {n c r:Nat} (hx:a.eval x= .slice A n c) (hy:a.eval y= .int .i64 (r:Nat)) (hr:r≤c):∀w,(execOp a.eval o).run Tryz.prog w= .ok (.value (sliced A 0 r c 11)) w:=fun w=>by
 unfold execOp;have e2:(Instr.sliceAt 27 (.slice A n c) none (some (.int .i64 (r:Nat))) none).run Tryz.prog w= .ok (sliced A 0 r c 11) w:=by
  rw[run_sliceAt_slice (h:=Tb),run_slice_h (ht:=Tb) (h0:=by omega) (h2:=by omega),Uv,Ut,Result.andThen_ok,Int.toNat_natCast]
 simp only[ho,hx,hy,Option.map,Sem.run_bind,Sem.run_pure,e2,Result.andThen_ok]
section
variable {w w':World} {Q Q':Nat→Prop} {base:Nat} {t:TypeId} {A:Option Addr} {n c r:Nat} {rows:List (List Value)} {es:List Ex}
theorem UJ (h:BJ w base t 11 (.slice A n c) rows):sliced A 0 r c 11= .slice A r c:=by
 unfold sliced;rw[Nat.sub_zero,Nat.sub_zero];split
 ·rfl
 ·rename_i hc
  rcases h.form with⟨hv, -⟩|⟨g,cap,cur,hv, -⟩
  ·injection hv with e1 e2 e3;omega
  injection hv with e1 e2 e3;subst e1;rfl
theorem UG (h:BJ w base t 11 (.slice A n c) rows) (hr:r≤n):∃A',sliced A r n c 11= .slice A' (n-r) (c-r)∧C0 w (fun b=>(Value.slice A n c).ownBlock=some b) 11 (.slice A' (n-r) (c-r)) (rows.drop r):=by
 have hln:n=rows.length∧n≤c:=by
  rcases h.form with⟨hv,hr⟩|⟨g,cap,cur,hv, -, -,h1, -⟩
  ·injection hv with e1 e2 e3;rw[hr];exact⟨e2,by omega⟩
  injection hv with e1 e2 e3;exact⟨e2,by omega⟩
 by_cases hz:n-r=0
 ·refine⟨if c=r then A else A.map (·.add (r*11)),rfl,if c=r then A else A.map (·.add (r*11)),c-r,?_,by rw[List.length_drop];omega,fun h=>by rw[List.length_drop]at h;omega⟩;rw[List.length_drop,←hln.1]
 rcases h.form with⟨hv,hr⟩|⟨g,cap,cur,hv, -⟩
 ·injection hv with e1 e2 e3;omega
 injection hv with e1 e2 e3;subst e1;unfold sliced;rw[SQ (by omega)];refine⟨some ⟨g,0+r*11,none⟩,?_,h.own.drop (k:=r) (by omega)⟩;rw[Option.map_some,Addr.add_mid]
theorem CL.take (h:CL w Q es rows) (k:Nat):CL w Q (es.take k) (rows.take k):=by
 refine⟨by rw[List.length_take,List.length_take,h.1],fun j e cs h1 h2=>?_⟩;rw[List.getElem?_take]at h1 h2;split at h1
 ·rename_i hj
  rw[SR hj]at h2;exact h.2 j e cs h1 h2
 cases h1
theorem C0.trees {v:Value} (h:C0 w Q 11 v rows) (hl:rows.length=es.length) (he:∀(j:Nat) (e:Ex) (cs:List Value),es[j]? =some e→rows[j]? =some cs→AW w Q e cs):DH w Q v es:=by
 obtain⟨A,c,rfl,hc,hx⟩:=h;refine⟨A,c,by rw[hl],by omega,fun hn=>?_⟩;obtain⟨b,o,e,hb,hcell⟩:=hx (by omega);refine⟨b,o,e,hb,BY.of fun j e' hj=>?_⟩;have hjl:j<rows.length:=by rw[hl];exact(SK.1 hj).1
 exact⟨rows[j],hcell j _ (SF hjl),he j e' _ hj (SF hjl)⟩
theorem CL.one (h:CL w Q es rows) (hev:KQ 11 rows):∀r∈rows,∀u∈r,u.oneCell'=true:=fun r hr=>by
 obtain⟨j,hj,rfl⟩:=List.getElem_of_mem hr;have hje:j<es.length:=by rw[←h.1];exact hj
 exact Al (h.2 j es[j] rows[j] (SF (by rw[←h.1];exact hj)) (SF hj))
theorem CL.step2 {B0 M:Nat} {s v':Value} {t:TypeId} {o:Obj} {e:Ex} {cs:List Value} {wr w3 w6:World} (hT:CL wr (J6 B0 M s wr.heap.size) es rows) (hM:BJ wr M t 11 s rows) (hM2:M≤wr.heap.size) (g3:A5 wr w3) (he:AW w3 (J6 B0 M s w3.heap.size) e cs)
  (k6:AC (fun i=>s.ownBlock=some i) (w3.alloc o) w6) (hr:v'.ownBlock=s.ownBlock∨v'.ownBlock=some (w3.alloc o).heap.size):CL w6 (J6 B0 M v' w6.heap.size) (es++[e]) (rows++[cs]):=by
 have s3:=g3.size;have s4:(w3.alloc o).heap.size=w3.heap.size+1:=by simp
 have s6:=k6.size;have hso:∀k,s.ownBlock=some k→M≤k∧k<wr.heap.size:=hM.lt;have ga:A5 w3 (w3.alloc o):=(Sa w3).alloc o;refine CL.snoc (hT.keep (S:=fun i=>s.ownBlock=some i) (fun b hb=>?_) (Sb ((g3.trans ga).keeps (S:=fun i=>s.ownBlock=some i)) k6 fun i _ h=>h)) (AW.keep (S:=fun i=>s.ownBlock=some i) (fun b hb=>?_) (Sb (ga.keeps (S:=fun i=>s.ownBlock=some i)) k6 fun i _ h=>h) e cs he)
 ·obtain⟨h1,h2,h3⟩:=hb;refine⟨h2,h3,h1,by omega,fun h4=>?_⟩;rcases hr with hr|hr
  ·exact h3 (hr▸h4)
  rw[hr]at h4;injection h4 with h4;omega
 obtain⟨h1,h2,h3⟩:=hb;refine⟨h2,h3,h1,by omega,fun h4=>?_⟩;rcases hr with hr|hr
 ·exact h3 (hr▸h4)
 rw[hr]at h4;injection h4 with h4;omega
end
theorem UW (A:Option Addr) (n n' c c':Nat):(Value.slice A n c).ownBlock=(Value.slice A n' c').ownBlock:=by rcases A with _|⟨b,o,_|_⟩<;>rfl
theorem U4 {B0 M E:Nat} {v v':Value} (h:v.ownBlock=v'.ownBlock):J6 B0 M v E=J6 B0 M v' E:=by
 funext b;unfold J6;rw[h]
theorem T7 (k f w o q n d:Int) (nm:ByteArray) (A1 A2 A3:Option Addr) (n1 n2 n3 c1 c2 c3:Nat) (W:World):(Instr.build 29 #[(0,.int .i64 k),(1,.int .i64 f),(2,.int .i64 w),(3,.int .i64 o),(4,.int .i64 q),(5,.agg (AN n d).toArray),(6,.string nm),(7,.slice A1 n1 c1),(8,.slice A2 n2 c2),(9,.slice A3 n3 c3)]).run Tryz.prog W= .ok (.agg #[.int .i64 k,.int .i64 f,.int .i64 w,.int .i64 o,.int .i64 q,.int .i64 n,.int .i64 d,.string nm,.slice A1 n1 c1,.slice A2 n2 c2,.slice A3 n3 c3]) W:=by kernel_rfl
theorem T1 {o:Oper} {a:Act} {w:World} {K:Act→World→Prop} {Q:Exit→Act→World→Prop} (ho:o.op= .alloc 29) (h:∀w',Ag w' w.heap.size 29 (AH 0 0).toArray→A5 w w'→K (a.put o.dst (.pointer (some ⟨w.heap.size,0,none⟩))) w'):o.wp Tryz.prog a w K Q:=by
 have h2:=h _ (Sc w 29 (AH 0 0).toArray) ((Sa w).alloc _);unfold Oper.wp execOp;simp only[ho];go_simp;exact h2
theorem T6 {M s z:Nat} {sv v1 v2 v3:Value} {t:TypeId} {x:Ex} {S:List Ex} {rows:List (List Value)} {wr w7 wa wa0 wb wb0 wk wk0 wc w9:World} (hT:CL wr (J6 0 M sv wr.heap.size) (S++x.kids) rows) (hM:BJ wr M t 11 sv rows) (hM2:M≤wr.heap.size) (hs:S.length=s) (g7:A5 wr w7)
  (hwa:C0 wa (fun b=>wa0.heap.size≤b∧b<wa.heap.size) 3 v1 (x.ms.map Au)) (hwb:C0 wb (fun b=>wb0.heap.size≤b∧b<wb.heap.size) 1 v2 (x.bys.map fun s=>[Value.string s])) (hwk:C0 wk (fun b=>wk0.heap.size≤b∧b<wk.heap.size) 11 v3 (rows.drop s))
  (ga:A5 wa wc) (gb:A5 wb wc) (gk:A5 wk wc) (la:A5 w7 wa0) (lb:A5 w7 wb0) (lk:A5 w7 wk0) (g7k:A5 w7 wk) (za:wa.heap.size≤z∨z<wa0.heap.size) (zb:wb.heap.size≤z∨z<wb0.heap.size) (zk:wk.heap.size≤z∨z<wk0.heap.size) (lz:w7.heap.size≤z) (k9:AC (fun i=>i=z) wc w9):
  AW w9 (J6 0 M sv w9.heap.size) x (AE x v1 v2 v3):=by
 have s7:=g7.size;have sa:=la.size;have sb:=lb.size;have sk:=lk.size;have s7k:=g7k.size;have hso:∀k,sv.ownBlock=some k→M≤k∧k<wr.heap.size:=hM.lt;have ka:AC (fun i=>i=z) wa w9:=Sb ga.keeps k9 fun i _ h=>h
 have kb:AC (fun i=>i=z) wb w9:=Sb gb.keeps k9 fun i _ h=>h
 have kk:AC (fun i=>i=z) wk w9:=Sb gk.keeps k9 fun i _ h=>h
 have hza:=ka.size;have hzb:=kb.size;have hzk:=kk.size;refine AW.mk_ (hwa.keep (fun b hb=>?_) ka) (hwb.keep (fun b hb=>?_) kb) ?_
 ·obtain⟨h1,h2⟩:=hb;exact⟨h2,by omega,.inr (by omega),by omega,fun e=>by have:=(hso b e).2;omega⟩
 ·obtain⟨h1,h2⟩:=hb;exact⟨h2,by omega,.inr (by omega),by omega,fun e=>by have:=(hso b e).2;omega⟩
 have hk2:DH wk (fun b=>J6 0 M sv wk.heap.size b∧b≠z) v3 x.kids:=by
  have hl:=hT.1;rw[SX]at hl;refine C0.trees (hwk.keep (S:=fun _=>False) (fun b hb=>?_) (Sa _)) (by rw[List.length_drop];omega) fun j e cs h1 h2=>?_
  ·obtain⟨h1,h2⟩:=hb;exact⟨h2,fun h=>h,⟨.inr (by omega),h2,fun e=>by have:=(hso b e).2;omega⟩,by omega⟩
  have hj:(S++x.kids)[s+j]? =some e:=by rw[List.getElem?_append_right (by omega),←h1];congr 1;omega
  rw[List.getElem?_drop]at h2;exact AW.keep (S:=fun _=>False) (fun b hb=>⟨hb.2.1,fun h=>h,⟨hb.1,by have:=hb.2.1;omega,hb.2.2⟩,by have:=hb.2.1;omega⟩) (g7.trans g7k) _ _ (hT.2 _ e cs hj h2)
 exact hk2.keep (fun b hb=>⟨hb.1.2.1,hb.2,hb.1.1,by have:=hb.1.2.1;omega,hb.1.2.2⟩) kk
section
variable {P:Program} {md:Region.Mode} {ops:Array Oper} {Q:Exit→Act→World→Prop} {Gs:List (Nat×(World→Prop))}
theorem TB {i j:Nat} {oi oj:Oper} {fuel:Nat} {listed:Array Bool} {a:Act} {w:World} (hcl:B6 md ops listed) (hr:Region.ready md ops listed=[i,j]) (hi:ops[i]? =some oi) (hgi:oi.guard=none) (hj:ops[j]? =some oj) (hgj:oj.guard=none)
  (h1:∀K:Act→World→Prop,(∀a' w',BV Gs (listed.setIfInBounds i true) w'→(B6 md ops (listed.setIfInBounds i true)→BV Gs (listed.setIfInBounds i true) w'→Bf P md ops Q Gs fuel (listed.setIfInBounds i true) a' w')→K a' w')→oi.wp P a w K Q)
  (h2:∀K:Act→World→Prop,(∀a' w',BV Gs (listed.setIfInBounds j true) w'→(B6 md ops (listed.setIfInBounds j true)→BV Gs (listed.setIfInBounds j true) w'→Bf P md ops Q Gs fuel (listed.setIfInBounds j true) a' w')→K a' w')→oj.wp P a w K Q):Bf P md ops Q Gs (fuel+1) listed a w:=by
 refine⟨(fun h0=>by rw[hr]at h0;cases h0),fun k hk=>?_⟩;have hk':=hk;rw[hr]at hk;rcases List.mem_cons.1 hk with hk|hk
 ·subst hk;unfold wpOp;simp only[hi,Region.wanted,hgi,if_true];exact .inl (h1 _ fun a' w' h3 h4=>⟨h3,h4 (hcl.set hk') h3⟩)
 obtain rfl:=SJ.1 hk;unfold wpOp;simp only[hj,Region.wanted,hgj,if_true];exact .inl (h2 _ fun a' w' h3 h4=>⟨h3,h4 (hcl.set hk') h3⟩)
end
attribute [local go_sem] Oper.semAt_some
def Sk (w0:World) (bp M:Nat) (es:List Ex) (W:World):Prop:=
 ∃v rows,Ag W bp 41 #[v]∧BJ W M 79 10 v rows∧TH W (J6 w0.heap.size M v W.heap.size) es rows∧A5 w0 W
def Sw (bp:Nat) (W:World) (i:Nat):Prop:=i=bp∨∃v,W.cell? ⟨bp,0,none⟩=some v∧v.ownBlock=some i
def KX (W W':World):Prop:=W.heap.size≤W'.heap.size∧∀z xs,Ag W z 29 xs→Ag W' z 29 xs
theorem KX.refl (W:World):KX W W:=⟨SD _,fun _ _ h=>h⟩
theorem KX.trans {a b c:World} (h:KX a b) (k:KX b c):KX a c:=⟨SH h.1 k.1,fun z xs hb=>k.2 z xs (h.2 z xs hb)⟩
theorem KX.grew {a b:World} (g:A5 a b):KX a b:=⟨g.size,fun z xs hb=>hb.grew g⟩
theorem UQ {w0:World} {bp M:Nat} {es:List Ex} {W:World} (h:Sk w0 bp M es W) {z:Nat} {xs:Array Value} (hb:Ag W z 29 xs):¬Sw bp W z:=by
 obtain⟨v,rows,hbp,hm, -, -⟩:=h;rintro(rfl|⟨v',hv,ho⟩)
 ·unfold Ag at hbp hb;rw[hbp]at hb;have h1:=SI hb;simp only[Obj.cells.injEq]at h1;exact absurd h1.2.1 (by decide)
 rw[show W.cell? ⟨bp,0,none⟩=some v from hbp.cell 0]at hv;obtain rfl:=SI hv;rcases hm.form with⟨rfl, -⟩|⟨g,cap,cur,rfl, -,hbox, -⟩
 ·cases ho
 obtain rfl:g=z:=by simpa[Value.ownBlock]using ho
 unfold Ag at hbox hb;rw[hbox]at hb;have h1:=SI hb;simp only[Obj.cells.injEq]at h1;exact absurd h1.2.1 (by decide)
theorem KX.of {w0:World} {bp M:Nat} {es:List Ex} {W W':World} (h:Sk w0 bp M es W) (k:AC (Sw bp W) W W'):KX W W':=
 ⟨k.size,fun z xs hb=>hb.keep k (UQ h hb)⟩
theorem Sk.grew {w0:World} {bp M:Nat} {es:List Ex} {W W':World} (h:Sk w0 bp M es W) (g:A5 W W'):Sk w0 bp M es W':=by
 obtain⟨v,rows,hb,hm,hi,hg⟩:=h;exact⟨v,rows,hb.grew g,hm.grew g,hi.keep (S:=fun _=>False) (fun b hb=>⟨hb.2.1,fun h=>h,hb.1,SE hb.2.1 g.size,hb.2.2⟩) g,hg.trans g⟩
abbrev VB:=Ex×List Value
theorem T2 {a b:World} {i:Nat} {o:Obj} (h:a.heap[i]? =some o) (g:A5 a b):b.heap[i]? =some o:=(g.block i (SO.1 h).1 (fun h=>h)).trans h
section
variable {F:Fence} {n:Nat} {P:Program} {ops:Array Oper} {rest:List Oper} {o:Oper} {a:Act} {w:World} {Q:Exit→Act→World→Prop}
theorem Sx (T:TypeId) (x:Operand) (_:o.op= .load T x) (h:wpListIn F n P ops Q (o::rest) a w):wpListIn F n P ops Q (o::rest) a w:=h
theorem TD (ty:TypeId) (x:Operand) (hgd:o.guard=none) (b off:Nat) (hx:a.eval x= .pointer (some ⟨b,off,none⟩)) (cs:List Value) (d:TypeDesc) (hc:w.rangeAt b off cs)
  (hu:P.underlying ty=some d) (hd:d.isRow=true) (hi:(P.info? ty).map (·.size)=some cs.length) (h:wpListIn F n P ops Q rest (a.put o.dst (.agg cs.toArray)) w) (ho:o.op= .load ty x:=by rfl):wpListIn F n P ops Q (o::rest) a w:=by
 refine wpListIn_plain hgd fun K hK=>?_
 unfold Oper.wpIn;refine⟨by simp[Oper.about,ho],?_⟩;rw[Oper.semAt_plain F _ _ (by rw[ho];intro c hc';cases hc')];unfold execOp;simp only[ho,hx,Instr.loadAt,Instr.sureAddr,Sem.run_bind,Sem.run_pure,Result.andThen_ok,run_loadVar_mid w b off ty cs d hc hu hd hi];exact hK _ _ h
end
theorem Ti (l bp M D:Nat) (w0:World) (oL oD:Obj) (root:List Ex)
  (hY:∀(m:Nat) (pre:List Ex) (x:VB) (us:List Ex) (W:World),pre++x.1::us=root→BZ w0 w0.heap.size x.1 x.2→Sk w0 bp M pre W→W.heap[l]? =some oL→W.heap[D]? =some oD→YieldAt Fence.wide m Tryz.prog l #[.agg x.2.toArray] W fun e W'=>
   e= .returned (.bool true)∧Sk w0 bp M (pre++[x.1]) W'∧W'.heap[l]? =some oL∧W'.heap[D]? =some oD∧AC (Sw bp W) W W'):
  ∀(k:Nat) (e:Ex),AL e≤k→k≤1000000→∀(n:Nat) (cs:List Value) (pre us:List Ex) (W:World),pre++M1 e++us=root→BZ w0 w0.heap.size e cs→Sk w0 bp M pre W→W.heap[l]? =some oL→W.heap[D]? =some oD→
  CallsIn Fence.wide n Tryz.prog 71 #[.agg cs.toArray,.func (.yield l) #[] #[]] W fun e' W'=>e'= .returned (.bool true)∧Sk w0 bp M (pre++M1 e) W'∧W'.heap[l]? =some oL∧W'.heap[D]? =some oD∧KX W W'
 |0,e,h,_,_,_,_,_,_,_,_,_,_,_=>absurd (Aw e) (by omega)
 |k+1,e,hk,hk2,n,cs,pre,us,W,hroot,hr,hI,hl,hd=>by
  have hones:∀v∈cs,v.oneCell'=true:=Al (BZ.toQ (Q:=fun _=>True) (fun _ _=>trivial) e cs hr);have hr0:=hr;obtain⟨vm,vb,vk,rfl, -, -,hT⟩:=hr.open_;have hne:=B9 e;have hkl:=Bh e.kids;obtain⟨A,m,c,rfl,hn, -⟩:=hT.slice;have hpe:=TN e;have hmb:m≤1000000:=by omega
  have HIH:=S9 (fun(e':Ex) (n:Nat) (cs:List Value) (pre us:List Ex) (W:World) (h1:e'∈e.kids) (h2:pre++M1 e'++us=root) (h3:BZ w0 w0.heap.size e' cs) (h4:Sk w0 bp M pre W) (h5:W.heap[l]? =some oL) (h6:W.heap[D]? =some oD)=>Ti l bp M D w0 oL oD root hY k e' (by have:=Aa h1;omega) (by omega) n cs pre us W h2 h3 h4 h5 h6);have HY:=S9 hY;have HT:=S9 hT;have HN:=S9 hn;have HR0:=S9 hr0;have HO:=S9 hones;have HP:=S9 hpe;have HRT:=S9 hroot;have hbx:=Sc W 29 (AE e vm vb (.slice A m c)).toArray;have hG:=(Sa W).alloc (.cells (AE e vm vb (.slice A m c)).toArray 29);have HI1:=S9 (hI.grew hG);have HLD1:=S9 (SC (T2 hl hG) (T2 hd hG));have hmx:Tryz.prog.follows .mixedOrders=true:=by kernel_rfl
  refine callsIn_of_wp Tryz.func71 rfl trivial ?_ rfl;simp only[Tryz.ntmps71,List.size_toArray,List.length_cons,List.length_nil,Nat.reduceAdd,Nat.reduceSub,Array.replicate_succ,Array.replicate_zero,List.push_toArray,List.append_toArray,List.nil_append,List.cons_append];clear hY hr hT hn hne hkl hk hk2 hones hr0 hpe hroot hI hl hd;obtain⟨W1,hW1⟩:∃W1,W.alloc (.cells (AE e vm vb (.slice A m c)).toArray 29)=W1:=⟨_,rfl⟩;rw[hW1]at hbx hG HI1 HLD1;have c10:W1.cell? ⟨W.heap.size,10,none⟩=some (.slice A m c):=hbx.cell 10;have HB1:=S9 hbx;have HG1:=S9 hG;have HW1:=S9 hW1;clear hbx hG
  gi_wp2
  clear hW1 c10
  gi_loopw [6,10] (fun _ i wr=>∃(j:Nat),j≤m∧i= .int .i64 (j:Nat)∧Sk w0 bp M (pre++N0 (e.kids.take j)) wr∧wr.heap[l]? =some oL∧wr.heap[D]? =some oD∧KX W1 wr) (fun _ i _=>m-(intOf i).toNat)
  case atStart=>exact⟨0,by omega,rfl,by simpa[N0]using HI1.out,HLD1.out.1,HLD1.out.2,KX.refl _⟩
  case round=>
   obtain⟨j,hj,rfl,hI,hl,hd,hkx⟩:=hrel;have HI:=S9 hI;have HLD:=S9 (SC hl hd);have HKX:=S9 hkx;by_cases hlt:j<m
   ·have hjl:j<e.kids.length:=by rw[←HN.out];exact hlt
    obtain⟨e',he'⟩:∃e',e.kids[j]? =some e':=⟨_,SF hjl⟩;have hmem:e'∈e.kids:=SN he';obtain⟨b,o,cs,rfl,hb,hrg,hre⟩:=HT.out.at_ he';have hre0:=hre;obtain⟨vm',vb',vk',hcs,hm',hy',hT'⟩:=hre.open_;subst hcs;obtain⟨A1,n1,c1,rfl⟩:∃A n c,vm'= .slice A n c:=by obtain⟨A,c,h, -⟩:=hm';exact⟨A,_,c,h⟩
    obtain⟨A2,n2,c2,rfl⟩:∃A n c,vb'= .slice A n c:=by obtain⟨A,c,h, -⟩:=hy';exact⟨A,_,c,h⟩
    obtain⟨A3,n3,c3,rfl, -⟩:=hT'.slice;have hgw:A5 w0 wr:=hI.choose_spec.choose_spec.2.2.2;have HRg:=S9 (Ao hrg hb hgw (fun h=>h));have hsp:(pre++N0 (e.kids.take j))++M1 e'++(N0 (e.kids.drop (j+1))++[e]++us)=root:=by
     rw[←HRT.out,HP.out,TZ he'];simp[List.append_assoc]
    have HSn:=S9 (show pre++N0 (e.kids.take (j+1))=pre++N0 (e.kids.take j)++M1 e' by rw[Tj he',List.append_assoc]);have HC:=S9 (fun(W':World) (g:A5 wr W')=>HIH.out e' (n-1) _ (pre++N0 (e.kids.take j)) _ W' hmem hsp hre0 (HI.out.grew g) (T2 HLD.out.1 g) (T2 HLD.out.2 g));clear hjl he' hmem hrg hre hre0 hm' hy' hT' hgw hsp hI hl hd hkx hb
    gi_wp2_with (first|((with_reducible refine Sx 29 (.tmp 12) rfl ?_);refine TD 29 (.tmp 12) rfl b (o+j*11) rfl (AE e' (.slice A1 n1 c1) (.slice A2 n2 c2) (.slice A3 n3 c3)) _ HRg.out Tryz.underlying29 rfl AD ?_)|((with_reducible refine FQ 29 (.tmp 6) (.tmp 13) rfl ?_);refine KH 29 (.tmp 6) (.tmp 13) (wr.heap.size) (AE e' (.slice A1 n1 c1) (.slice A2 n2 c2) (.slice A3 n3 c3)) (AH 0 0) 29 AD rfl (Ay _ _ _ _ _ _ _ _ _ _) rfl rfl rfl rfl (Sc wr 29 _) ?_;intro w5 hb5 k5 d5;have g5:A5 wr w5:=Sb ((Sa wr).alloc _) k5 (fun i hi e=>by omega);have HG5:=S9 g5;have HRg5:=S9 (show w5.rangeAt wr.heap.size 0 (AE e' (.slice A1 n1 c1) (.slice A2 n2 c2) (.slice A3 n3 c3))from hb5.rangeN 0 _ (by simp));clear k5 d5 g5 hb5)|((with_reducible refine Sx 29 (.tmp 6) rfl ?_);refine TD 29 (.tmp 6) rfl wr.heap.size 0 rfl (AE e' (.slice A1 n1 c1) (.slice A2 n2 c2) (.slice A3 n3 c3)) _ HRg5.out Tryz.underlying29 rfl AD ?_))
    refine⟨trivial,fun h=>by simp[Fence.wide]at h,?_⟩;refine(HC.out _ HG5.out).mono ?_;rintro e2 w6 ⟨rfl,hI6,hl6,hd6,hk6⟩;have HI6:=S9 hI6;have HLD6:=S9 (SC hl6 hd6);have HK6:=S9 ((KX.grew HG5.out).trans hk6);clear hI6 hl6 hd6 hk6
    gi_wp2
    go_roundw
    case rel=>exact⟨j+1,by omega,by go_num,by rw[HSn.out];exact HI6.out,HLD6.out.1,HLD6.out.2,HKX.out.trans HK6.out⟩
    case measure=>simp[intOf];omega
   obtain rfl:j=m:=by omega
   have hes:pre++N0 (e.kids.take j)=pre++N0 e.kids:=by rw[List.take_of_length_le (by rw[←HN.out];exact SD _)]
   rw[hes]at HI;have hbr:=HKX.out.2 _ _ HB1.out;have HRg:=S9 (show wr.rangeAt W.heap.size 0 (AE e vm vb (.slice A j c))from hbr.rangeN 0 _ (by simp));obtain⟨fn,tmps,assign,body,hy0,hR⟩:=HY.out (n-1) (pre++N0 e.kids) (e,AE e vm vb (.slice A j c)) us wr (by rw[←HRT.out,HP.out];simp[List.append_assoc]) HR0.out HI.out HLD.out.1 HLD.out.2;have hy:(Instr.yield l #[.agg (AE e vm vb (.slice A j c)).toArray]).run Tryz.prog wr= .ok (.round l fn tmps assign body) wr:=hy0;have HRR:=S9 hR;have HIP:=S9 HI.out;clear hy0 hR hI hl hd hkx hes hbr
   gi_wp2_with ((with_reducible refine Sx 29 (.tmp 2) rfl ?_);refine TD 29 (.tmp 2) rfl W.heap.size 0 rfl (AE e vm vb (.slice A j c)) _ HRg.out Tryz.underlying29 rfl AD ?_)
   refine⟨fun h=>by simp[Fence.wide]at h,HRR.out.mono ?_⟩;rintro e9 W9 ⟨rfl,hti9,hl9,hd9,k9⟩;have HF:=S9 (show Sk w0 bp M (pre++M1 e) W9 by rw[HP.out,←List.append_assoc];exact hti9);have HF2:=S9 (SC hl9 (SC hd9 (show KX W W9 from(KX.grew HG1.out).trans (HKX.out.trans (KX.of HIP.out k9)))));clear hti9 hl9 hd9 k9
   gi_wp2
   go_ret;exact⟨rfl,HF.out,HF2.out.1,HF2.out.2.1,HF2.out.2.2⟩
end Go.Proofs.YthpflelgbadkcaaGreatDoor
namespace Go.Proofs.YthpflelgbadkcaaGreatDoor
section
variable {P:Program} {ops:Array Oper} {Q:Exit→Act→World→Prop} {l n:Nat}
theorem Uf {o:Oper} {a:Act} {K K':Act→World→Prop} (hK:∀a w,K a w→K' a w) {r:Result Next} (h:o.upon P a K Q r):o.uponIn (Fence.wide.inRound l) n P a K' Q r:=by
 have hd:(Fence.wide.inRound l).depth.isSome=true→1≤n:=fun h=>by simp[Fence.wide]at h
 unfold Oper.upon at h;unfold Oper.uponIn;split at h
 ·exact hK _ _ h
 ·exact hK _ _ h
 ·exact hK _ _ h
 ·refine⟨hd,CallsIn.inRound l (callsIn_wide.2 (h.mono ?_))⟩;rintro(v|c|_) w'' h2
  ·exact hK _ _ h2
  ·exact h2
  exact h2
 ·refine⟨hd,?_⟩;intro fr cs hr;obtain⟨v,w'',h1,h2⟩:=h fr cs;exact⟨v,w'',hK _ _ h1,stepsIn_wide.2 h2⟩
 ·exact h
 exact h.elim
theorem T9 (hlo:¬LetsOut Q) (hn:∀(i:Nat) (o:Oper),ops[i]? =some o→∀c,o.op≠.defer c):∀(L:List Nat) (a:Act) (w:World),wpOps P ops Q L a w→wpOpsIn (Fence.wide.inRound l) n P ops Q L a w
 |[],a,w,h=>h
 |i::r,a,w,h=>by
  unfold wpOps at h;unfold wpOpsIn;split at h
  ·rename_i ho
   rw[ho];exact T9 hlo hn r a w h
  ·rename_i o ho
   rw[ho];dsimp only;split at h
   ·rename_i hw
    rw[SR hw];refine⟨fun _ _=>trivial,?_⟩;rw[Oper.semAt_plain _ _ _ (hn i o ho)];exact Uf (fun a w=>T9 hlo hn r a w) (h.resolve_right fun h=>hlo h.2)
   ·rename_i hw
    rw[SQ hw];exact⟨fun _ _=>trivial,T9 hlo hn r _ w h⟩
theorem TL (Gs:List (Nat×(World→Prop))) {id:Nat} {a:Act} {w:World} (hm:P.follows .mixedOrders=true) (hlo:¬LetsOut Q) (hn:(ops.all fun o=>match o.op with| .defer _=>false|_=>true)=true) (hK:∀p∈Gs,p.2 w.drew)
  (h:B6 .any ops (Array.replicate ops.size false)→BV Gs (Array.replicate ops.size false) w.drew→Bf P .any ops Q Gs ops.size (Array.replicate ops.size false) a w.drew):(Code.region id ops true).wpIn (Fence.wide.inRound l) n P Q a w:=by
 refine wpIn_region_draw fun t=>?_
 simp only[Region.schedule,hm,Bool.true_or,if_true];refine T9 hlo (fun i o ho c hc=>?_) _ _ _ (wpAny_sound ops.size t _ a _ (Ik _ _ _ _ (h (B6.start _) (fun p hp _=>hK p hp))));have h1:=(Array.all_eq_true.1 hn) i (SO.1 ho).1;rw[(SO.1 ho).2,hc]at h1;cases h1
end
end Go.Proofs.YthpflelgbadkcaaGreatDoor
