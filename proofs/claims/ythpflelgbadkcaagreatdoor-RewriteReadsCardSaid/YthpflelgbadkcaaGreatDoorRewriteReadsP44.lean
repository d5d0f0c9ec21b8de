/- plan.Compile: the plan of a valid tree. -/
import Derived.Test.YthpflelgbadkcaaGreatDoorRewriteReadsP01
import Derived.Test.YthpflelgbadkcaaGreatDoorRewriteReadsP43
import Derived.Test.YthpflelgbadkcaaGreatDoorRewriteReadsP17
import Derived.Test.YthpflelgbadkcaaGreatDoorRewriteReadsP10
import Derived.Test.YthpflelgbadkcaaGreatDoorRewriteReadsP20
import Derived.Great.BuildSlice
set_option maxRecDepth 100000
set_option maxHeartbeats 12800000
set_option linter.unusedVariables false
set_option linter.unusedSimpArgs false
namespace Go.Proofs.YthpflelgbadkcaaGreatDoor
open Go.RowKit Go.Shelf Pl
attribute [local go_sem] Oper.semAt_some
theorem A5.others2 {W W':World} (h:A5 W W'):KeepsOthers W W':=⟨h.size,fun k o hk _=>(h.block k (SO.1 hk).1 (fun h=>h)).trans hk⟩
theorem UE {F:Fence} (hd:F.depth=none) (k:Nat):F.room k:=fun d h=>by rw[hd]at h;cases h
theorem UB {F:Fence} (hd:F.depth=none) {m:Nat} (m':Nat) {P:Program} {l:Nat} {args:Array Value} {W:World} {R:Ending→World→Prop} (h:YieldAt F m P l args W R):YieldAt F m' P l args W R:=by
 obtain⟨fn,tmps,assign,body,hy,hR⟩:=h;exact⟨fn,tmps,assign,body,hy,hR.1,fun c cs _=>hR.2 c cs (UE hd _)⟩
theorem T3 {P:Program} {a:Act} {o:Oper} (T:TypeId) (l:Array (Nat×Operand)) (ho:o.op= .build T l) (v:Value) (l2:Array (Nat×Value)) (hb:∀w,(Instr.build T l2).run P w= .ok v w) (hl:(l.map fun(i,x)=>(i,a.eval x))=l2):∀w,(execOp a.eval o).run P w= .ok (.value v) w:=fun w=>by
 unfold execOp;simp only[ho,hl,Sem.run_bind,Sem.run_pure,hb,Result.andThen_ok]
theorem UL (k f w o q n d:Int) (nm:ByteArray) (A1 A2:Option Addr) (n1 n2 c1 c2:Nat) (W:World):(Instr.build 79 #[(0,.int .i64 k),(1,.int .i64 f),(2,.int .i64 w),(3,.int .i64 o),(4,.int .i64 q),(5,.agg (AN n d).toArray),(6,.string nm),(7,.slice A1 n1 c1),(8,.slice A2 n2 c2)]).run Tryz.prog W= .ok (.agg #[.int .i64 k,.int .i64 f,.int .i64 w,.int .i64 o,.int .i64 q,.int .i64 n,.int .i64 d,.string nm,.slice A1 n1 c1,.slice A2 n2 c2]) W:=by kernel_rfl
theorem TY {P:Program} {t e:TypeId} {sz bytes:Nat} {z:Value} {w:World} {base:Nat} {v:Value} {rows:List (List Value)} {cs:List Value} {b:Nat} {t':TypeId} {o:Oper} {a:Act} {K:Act→World→Prop} {Q:Exit→Act→World→Prop} (T:P7 P t e sz bytes z) (s x:Operand)
  (ho:o.op= .call { callee:= .builtin .append,args:=#[s,x],argTypes:=#[t,t] })
  (hs:a.eval s=v) (hown:BJ w base e sz v rows) (hx:a.eval x= .slice (some ⟨b,0,none⟩) 1 1) (hb:Ag w b t' cs.toArray) (h1:∀u∈cs,u.oneCell'=true) (hl:cs.length=sz)
  (hn:rows.length+1≤1099511627) (hbase:base≤w.heap.size)
  (h:∀v' w',BJ w' base e sz v' (rows++[cs])→AC (fun i=>v.ownBlock=some i) w w'→(v'.ownBlock=v.ownBlock∨v'.ownBlock=some w.heap.size)→K (a.put o.dst v') w'):Oper.wp P o a w K Q:=by
 have hr:Ch w w.heap.size sz (.slice (some ⟨b,0,none⟩) 1 1) [cs]:=⟨_,1,rfl,SD _,fun _=>⟨b,0,rfl,hb.lt,fun j r hj=>by
  rcases j with _|j
  ·obtain rfl:cs=r:=by simpa using hj
   rw[Nat.zero_mul];exact hb.rangeN 0 _ (by simp)
  simp at hj⟩⟩
 obtain⟨v',w',hrun,h2,h3,h4⟩:=GJ (P:=P) T o.type hown hr (fun r hr=>by obtain rfl:=SJ.1 hr;exact hl) (fun r hr=>by obtain rfl:=SJ.1 hr;exact h1) hn hbase;unfold Oper.wp execOp;simp only[ho,resolve,invoke,builtin,Sem.run_bind,Sem.run_pure,Result.andThen_ok,List.map_toArray,List.map_cons,List.map_nil,hs,hx,hrun];exact h v' w' h2 h3 h4
theorem UM (k f w o q n d:Int) (nm:ByteArray) (v1 v2:Value):Instr.fill (fun i=>some (i*10,10)) ((Array.range (1*10)).map (TK.cells[·%TK.cells.size]!)) [(0,.agg #[.int .i64 k,.int .i64 f,.int .i64 w,.int .i64 o,.int .i64 q,.int .i64 n,.int .i64 d,.string nm,v1,v2])]=some #[.int .i64 k,.int .i64 f,.int .i64 w,.int .i64 o,.int .i64 q,.int .i64 n,.int .i64 d,.string nm,v1,v2]:=by kernel_rfl
theorem TQ {o:Oper} {a:Act} {w:World} {K:Act→World→Prop} {Q:Exit→Act→World→Prop} (x:Operand) (ho:o.op= .buildSlice 41 1 #[(0,x)]) {e:Ex} {v1 v2:Value} (hx:a.eval x= .agg (P4 e v1 v2).toArray)
  (h:K (a.put o.dst (.slice (some ⟨w.heap.size,0,none⟩) 1 1)) (w.alloc (.cells (P4 e v1 v2).toArray 79))):o.wp Tryz.prog a w K Q:=by
 obtain⟨i,hi,hz,hs,hby⟩:=info_parts Us.info;refine wp_buildSlice 41 79 1 #[(0,x)] ho (P4 e v1 v2).toArray i TK Tryz.underlying41 hi hz (by rw[hs];decide) (by rw[hs];decide) ?_ h;rw[hs];simp only[List.map_toArray,List.map_cons,List.map_nil,hx];exact UM _ _ _ _ _ _ _ _ v1 v2
theorem Sk.abides {w0:World} {bp M:Nat} (hb:bp<M) (h0:w0.heap.size≤M) (es:List Ex) {A B:World} {row:Option Nat} (h:Sk w0 bp M es A) (hk:AC (fun i=>row=some i) A B) (hr:∀r,row=some r→M≤r∧∃o:Obj,A.heap[r]? =some o∧o.isCells=false):Sk w0 bp M es B:=by
 obtain⟨v,rows,hb1,hm,hi,hgr⟩:=h;have hno:∀i xs t,Ag A i t xs→row≠some i:=fun i xs t hbx e=>by
  obtain⟨o,ho,hc⟩:=(hr _ e).2;unfold Ag at hbx;rw[hbx]at ho;obtain rfl:=SI ho;cases hc
 have hown:∀i,v.ownBlock=some i→row≠some i:=fun i hi e=>by
  rcases hm.form with⟨rfl, -⟩|⟨g,cap,cur,rfl, -,hbox, -⟩
  ·cases hi
  obtain rfl:g=i:=by simpa[Value.ownBlock]using hi
  exact hno _ _ _ hbox e
 refine⟨v,rows,hb1.keep hk (fun e=>hno _ _ _ hb1 e),hm.keep hk (fun i hi e=>hown i hi e),⟨hi.1,fun j e cs h1 h2=>?_⟩,Sb hgr hk fun i hi e=>by have:=(hr _ e).1;omega⟩;obtain⟨vm,vb,h3,h4,h5⟩:=hi.2 j e cs h1 h2;have hrow:∀(sz:Nat) (u:Value) (rs:List (List Value)),0<sz→KQ sz rs→C0 A (J6 w0.heap.size M v A.heap.size) sz u rs→C0 B (J6 w0.heap.size M v B.heap.size) sz u rs:=fun sz u rs hsz hev h=>by
  obtain⟨A',c',hu,hc,hx⟩:=h;refine⟨A',c',hu,hc,fun hn=>?_⟩;obtain⟨b,o,e1,hq,hcell⟩:=hx hn;have hbn:row≠some b:=fun e=>by
   obtain⟨ob,hob,hcc⟩:=(hr _ e).2;have h0:=hcell 0 rs[0] (SF hn);have hl:rs[0].length=sz:=hev _ (List.getElem_mem hn);have h9:=h0 0 rs[0][0] (SF (by omega));unfold World.cell? at h9;simp only at h9;rw[hob]at h9;cases ob with
   |cells cc tt ff=>cases hcc
   |_=>simp at h9
  exact⟨b,o,e1,⟨hq.1,SE hq.2.1 hk.size,hq.2.2⟩,fun j cs hj=>Ao (hcell j cs hj) hq.2.1 hk hbn⟩
 exact⟨vm,vb,h3,hrow 3 vm _ (by decide) (Pu _) h4,hrow 1 vb _ (by decide) (OE _) h5⟩
abbrev V4:={ p:VB//p.2.length=11∧∀v∈p.2,v.oneCell'=true }
theorem Ta (e:Ex) (A1 A2:Option Addr) (n1 c1 n2 c2:Nat):∀v∈P4 e (.slice A1 n1 c1) (.slice A2 n2 c2),v.oneCell'=true:=by
 intro v hv;simp only[P4,List.mem_cons,List.not_mem_nil,or_false]at hv;rcases hv with rfl|rfl|rfl|rfl|rfl|rfl|rfl|rfl|rfl|rfl<;>rfl
theorem Tz:∀(n:Nat) (e:Ex),AL e≤n→BL Be e→∀x∈M1 e,x.ms.length≤1000000∧x.bys.length≤1000000
 |0,e,h,_=>absurd (Aw e) (by omega)
 |n+1,e,h,hok=>by
  have h2:=B9 e;intro x hx;rw[TN]at hx;rcases List.mem_append.1 hx with hx|hx
  ·have:∀es:List Ex,(∀k∈es,k∈e.kids)→x∈N0 es→∃k∈es,x∈M1 k:=by
    intro es
    induction es with
    |nil=>intro _ h;unfold N0 at h;cases h
    |cons a tl ih=>
     intro hsub h;unfold N0 at h;rcases List.mem_append.1 h with h|h
     ·exact⟨a,List.mem_cons_self,h⟩
     obtain⟨k,hk,hxk⟩:=ih (fun k hk=>hsub k (List.mem_cons_of_mem _ hk)) h;exact⟨k,List.mem_cons_of_mem _ hk,hxk⟩
   obtain⟨k,hk,hxk⟩:=this e.kids (fun _ h=>h) hx;exact Tz n k (by have:=Aa hk;omega) (hok.kid hk) x hxk
  obtain rfl:=SJ.1 hx;exact⟨SH hok.top.2.2.2.2.1 (by decide),SH hok.top.2.2.2.2.2 (by decide)⟩
theorem Tl (cs:List Value) (w:World) (hl:cs.length=11):Calls Tryz.prog 37 #[.agg cs.toArray] w fun e w'=>e= .returned (.func (.func 70) #[] #[.pointer (some ⟨w.heap.size,0,none⟩)])∧Ag w' w.heap.size 29 cs.toArray∧A5 w w':=by
 have hb:=Sc w 29 cs.toArray;have hg:=(Sa w).alloc (.cells cs.toArray 29);go_enter Tryz.func37,Tryz.ntmps37;go_upto_region 1 with fail;change Code.wp _ _ _ _ (w.alloc (.cells cs.toArray 29));generalize w.alloc (.cells cs.toArray 29)=w1 at*;have HG:=S9 (SC hb hg);clear hb hg;go_wp2_with fail;go_ret;exact⟨rfl,HG.out⟩
theorem TE (e:Ex) (hn:AL e≤200) (hok:BL Be e) (hv:Ca e=0) (w:World) (cs:List Value) (hwt:D5 w) (hr:BZ w w.heap.size e cs):
  Calls Tryz.prog 18 #[.agg cs.toArray] w fun e' w'=>∃v,e'= .returned (.tuple #[v,.int .i64 0])∧Su w' (fun b=>b<w'.heap.size) v (M1 e)∧A5 w w':=by
 have hone:∀v∈cs,v.oneCell'=true:=Al (BZ.toQ (Q:=fun _=>True) (fun _ _=>trivial) e cs hr);have hl:=BX hr;have hb:=Sc w 29 cs.toArray;have hG:=(Sa w).alloc (.cells cs.toArray 29);have HR:=S9 hr;have HVd:=S9 (fun w' (g:A5 w w')=>Ek e (by omega) hok w' cs (hwt.grew g) (hr.grew g));rw[hv]at HVd;have HPf:=S9 (fun w'=>Tl cs w' hl);have HL:=S9 hl;have HOK:=S9 (show ∀x∈M1 e,x.ms.length≤1000000∧x.bys.length≤1000000 from fun x hx=>Tz (AL e) e (SD _) hok x hx);obtain⟨w1,hw1⟩:∃w1,w.alloc (.cells cs.toArray 29)=w1:=⟨_,rfl⟩;rw[hw1]at hb hG;have HB:=S9 hb;have HG:=S9 hG;have HRg:=S9 (show ∀w',A5 w1 w'→w'.rangeAt w.heap.size 0 cs from fun w' g=>(HB.out.grew g).rangeN 0 _ (by simp));refine(callsIn_wide (n:=5)).1 ?_;refine callsIn_of_wp_marks Tryz.func18 rfl trivial ?_ rfl;simp only[Tryz.ntmps18,List.size_toArray,List.length_cons,List.length_nil,Nat.reduceAdd,Nat.reduceSub,Array.replicate_succ,Array.replicate_zero,List.push_toArray,List.append_toArray,List.nil_append,List.cons_append];clear hr hok hv hwt hone hl hb hG
 gi_wp2_with (first|((with_reducible refine Sx 29 (.tmp 1) rfl ?_);first|(refine TD 29 (.tmp 1) rfl w.heap.size 0 rfl cs _ (HRg.out _ (Sa _)) Tryz.underlying29 rfl (by rw[HL.out];exact AD) ?_)|(refine TD 29 (.tmp 1) rfl w.heap.size 0 rfl cs _ HRg3.out Tryz.underlying29 rfl (by rw[HL.out];exact AD) ?_))|(refine⟨trivial,?_⟩;gi_at_call 12;refine(callsIn_wide.2 (HVd.out _ HG.out)).mono ?_;rintro e3 w2 ⟨rfl,k2⟩;have HG2:=S9 k2;have hg3:=k2.alloc (.cells #[.slice none 0 0] 41);have hb3:=Sc w2 41 #[.slice none 0 0];obtain⟨w3,hw3⟩:∃w3,w2.alloc (.cells #[.slice none 0 0] 41)=w3:=⟨_,rfl⟩;rw[hw3]at hg3 hb3;have HG3:=S9 hg3;have HB3:=S9 hb3;have HRg3:=S9 (HRg.out _ hg3);clear k2 hg3 hb3)|(refine⟨trivial,?_⟩;gi_at_call 37;refine(callsIn_wide.2 (HPf.out _)).mono ?_;rintro e3 w4 ⟨rfl,hb4,k4⟩;have HB4:=S9 hb4;have HG4:=S9 k4;clear hb4 k4))
 have hsz3:w3.heap.size=w2.heap.size+1:=by rw[←hw3];simp
 have hlen:=Sy e;have hbx4:=HB4.out;have hb34:=HB3.out.grew HG4.out;have hbx4l:=hbx4.lt;have hg4:A5 w w4:=(HG.out.trans HG3.out).trans HG4.out;have hgs:w.heap.size≤w2.heap.size:=(HG.out.trans HG2.out).size;clear hw3 HRg3;obtain⟨bp,hbp⟩:∃b,w2.heap.size=b:=⟨_,rfl⟩;obtain⟨bx,hbx⟩:∃b,w3.heap.size=b:=⟨_,rfl⟩;rw[hbp]at hb34 hsz3 hgs ⊢;rw[hbx]at hbx4 hbx4l hsz3 ⊢;have HZ:=S9 (show w.heap.size≤bp∧bp+1=bx∧bx<w4.heap.size from⟨hgs,by omega,hbx4l⟩);have HBx:=S9 hbx4;have HG4w:=S9 hg4;have HLE:=S9 (show(M1 e).length≤200 by rw[hlen];exact hn);have hi0:Sk w bp w4.heap.size [] w4:=⟨_,[],hb34,BJ.nil _ _ _ _,TH.nil _ _,hg4⟩;clear hbx4 hb34 hg4 hgs hbx4l hsz3 hlen HB3 HB4 HG3 HG4 HG2 HPf HVd hbp hbx;refine Gx (F:=Fence.wide) (n:=5) (α:=V4) rfl (by omega) (gf:=70) (fs:=#[]) (lb:=#[.pointer (some ⟨bx,0,none⟩)]) rfl trivial (enters_of Tryz.func70 (by kernel_rfl) rfl) (encs:=fun x=>#[.agg x.1.2.toArray]) (fun _=>rfl) (fun pre x=>(∃us,pre.map (fun p=>p.1.1)++x.1.1::us=M1 e)∧BZ w w.heap.size x.1.1 x.1.2)
  (fun pre W=>Sk w bp w4.heap.size (pre.map fun p=>p.1.1) W) ?hI hi0
  (fun x z=>{ tmps:=#[.agg cs.toArray,.pointer (some ⟨w.heap.size,0,none⟩),.slice none 0 0,.int .i64 0,.int .i64 0,.pointer (some ⟨bp,0,none⟩),.pointer (some ⟨z,0,none⟩),.agg cs.toArray,.int .i64 0,.int .i64 0,.bool false,undef,.agg cs.toArray,.func (.func 70) #[] #[.pointer (some ⟨bx,0,none⟩)],.agg x.1.2.toArray,undef,undef,undef,undef,undef,undef,undef,undef,undef,undef,undef,undef,undef,undef,undef,undef,undef,undef,undef,undef,undef,undef,undef,undef,undef],defers:=[] }) 29 (fun x=>x.1.2.toArray)
  (Sw bp) ?hS (fun xs W=>xs.map (fun p=>p.1.1)=M1 e∧Sk w bp w4.heap.size (xs.map fun p=>p.1.1) W) ?hR ?hseq ?assign ?body ?hSz ?done
 case hI=>
  intro pre A B row h hg hr;have hk:AC (fun i=>row=some i) A B:=⟨hg.os,hg.tape,hg.output,hg.size,fun i hi hn=>hg.block i hi fun e=>hn e.symm⟩;exact Sk.abides (by have:=HZ.out;omega) HG4w.out.size _ h hk hr
 case hS=>
  intro W W' i hb hs;rcases hs with hs|⟨v,hv,ho⟩
  ·exact .inl hs
  exact .inr ⟨v,(World.cell?_of_block (a:=⟨bp,0,none⟩) (hb bp (by have:=HZ.out;omega))).symm.trans hv,ho⟩
 case hR=>
  intro xs A B row h hg hr;have hk:AC (fun i=>row=some i) A B:=⟨hg.os,hg.tape,hg.output,hg.size,fun i hi hn=>hg.block i hi fun e=>hn e.symm⟩;exact⟨h.1,Sk.abides (by have:=HZ.out;omega) HG4w.out.size _ h.2 hk hr⟩
 case hseq=>
  intro l oL oD W hl hoL hoD hI hG hY;have hbW:=HBx.out.grew hG;have HRW:=S9 (show W.rangeAt bx 0 cs from hbW.rangeN 0 _ (by simp));have HVi:=S9 (Ti l bp w4.heap.size w4.heap.size w oL oD (M1 e) (fun m pre x us W1 h1 h2 h3 h4 h5=>by
   have hx:x.2.length=11∧∀v∈x.2,v.oneCell'=true:=⟨BX h2,Al (BZ.toQ (Q:=fun _=>True) (fun _ _=>trivial) _ _ h2)⟩;have hmap:(pre.map fun e=>(⟨(e,x.2),hx⟩:V4)).map (fun p=>p.1.1)=pre:=by rw[List.map_map];exact List.map_id'' (fun _=>rfl) pre
   have:=hY (pre.map fun e=>⟨(e,x.2),hx⟩) ⟨x,hx⟩ W1 ⟨⟨us,by rw[hmap];exact h1⟩,h2⟩ (by rw[hmap];exact h3) h4 h5;rw[List.map_append,hmap]at this;exact UB rfl m this) (AL e) e (SD _) (by omega) 3 cs [] [] W (by simp) HR.out (by simpa using hI) hoL hoD)
  refine callsIn_of_wp Tryz.func70 rfl trivial ?_ rfl;simp only[Tryz.ntmps70,List.size_toArray,List.length_cons,List.length_nil,Nat.reduceAdd,Nat.reduceSub,Array.replicate_succ,Array.replicate_zero,List.push_toArray,List.append_toArray,List.nil_append,List.cons_append];clear hbW hI hoL hoD hY
  gi_wp2_with (first|((with_reducible refine Sx 29 (.tmp 1) rfl ?_);refine TD 29 (.tmp 1) rfl bx 0 rfl cs _ HRW.out Tryz.underlying29 rfl (by rw[HL.out];exact AD) ?_)|(refine⟨trivial,?_⟩;gi_at_call 71;refine HVi.out.mono ?_;rintro e9 W9 ⟨rfl,hi9,hl9,hd9, -⟩))
  first|go_end0|go_ret
  refine⟨⟨_,rfl⟩,(M1 e).map (fun x=>(⟨(x,cs),HL.out,Al (BZ.toQ (Q:=fun _=>True) (fun _ _=>trivial) _ _ HR.out)⟩:V4)),⟨?_,?_⟩,hl9,hd9⟩
  ·rw[List.map_map];exact List.map_id'' (fun _=>rfl) _
  rw[List.map_map];have h9:((fun p:V4=>p.1.1)∘fun x=>(⟨(x,cs),HL.out,Al (BZ.toQ (Q:=fun _=>True) (fun _ _=>trivial) _ _ HR.out)⟩:V4))=id:=rfl;rw[h9,List.map_id];simpa using hi9
 case hSz=>
  intro pre W z hI hs;obtain⟨v,rows,hb,hm, -⟩:=hI;rcases hs with rfl|⟨v',hv,ho⟩
  ·exact hb.lt
  rw[show W.cell? ⟨bp,0,none⟩=some v from hb.cell 0]at hv;obtain rfl:=SI hv;exact(hm.lt z ho).2
 case assign=>
  intro l x W K hK
  gi_wp2_with ((with_reducible refine FQ 29 (.tmp 6) (.tmp 14) rfl ?_);refine KH 29 (.tmp 6) (.tmp 14) W.heap.size x.1.2 (AH 0 0) 29 (by rw[x.2.1];exact AD) (by rw[x.2.1];rfl) x.2.2 rfl rfl rfl rfl (Sc W 29 _) ?_;intro w8 hb8 k8 d8)
  have hG:A5 W w8:=Sb ((Sa W).alloc _) k8 (fun i hi e=>by omega);exact hK w8 hG (A5.others2 hG) hb8
 case body=>
  rintro l pre ⟨⟨x1,xc⟩,hx⟩ z W ⟨⟨us,hus⟩,hrx⟩ hI hbz hWl hlz hnz;dsimp only at hus hrx hbz ⊢;obtain⟨so,rows,hbp,hm,hi,hg⟩:=hI;obtain⟨vm',vb',vk',hcs,hm',hy',hT'⟩:=hrx.open_;subst hcs;have hm0:=hm';have hy0:=hy';obtain⟨A1,n1,c1,rfl⟩:∃A n c,vm'= .slice A n c:=by obtain⟨A,c,h, -⟩:=hm';exact⟨A,_,c,h⟩
  obtain⟨A2,n2,c2,rfl⟩:∃A n c,vb'= .slice A n c:=by obtain⟨A,c,h, -⟩:=hy';exact⟨A,_,c,h⟩
  obtain⟨A3,n3,c3,rfl, -⟩:=hT'.slice;have HBp:=S9 hbp;have HM:=S9 hm;have HI:=S9 hi;have HBz:=S9 hbz;have HMz:=S9 (show w4.heap.size≤W.heap.size by have:=hbz.lt;omega);have HGW:=S9 hg;have HLn:=S9 (show(pre.map (fun p=>p.1.1)).length≤200 by have h1:=HLE.out;rw[←hus]at h1;simp at h1 ⊢;omega);have gd:A5 W W.drew:=Sd (Sa W);have g0:A5 W.drew W.drew:=Sa _;have hln:x1.ms.length≤1000000∧x1.bys.length≤1000000:=HOK.out x1 (by rw[←hus];simp);have HCM:=S9 (fun w' (g:A5 W.drew w')=>Lx (.slice A1 n1 c1) (x1.ms.map Au) w' ((hm0.keep (SD _) (hg.trans (gd.trans g)).size (hg.trans (gd.trans g)) (fun _ _ h=>h))) (Pu _) (QN _) (by rw[List.length_map];exact hln.1));have HCS:=S9 (fun w' (g:A5 W.drew w')=>Lu (.slice A2 n2 c2) (x1.bys.map fun s=>[Value.string s]) w' ((hy0.keep (SD _) (hg.trans (gd.trans g)).size (hg.trans (gd.trans g)) (fun _ _ h=>h))) (OE _) (PE _) (by rw[List.length_map];exact hln.2));clear hbp hm hi hg hbz hm' hy' hT' hm0 hy0 hrx hus hln;refine wpIn_block ?_;refine TL [(23,fun w'=>A5 W.drew w')] (by kernel_rfl) (by rintro⟨a,w,h⟩;exact absurd h.1 (by simp)) (by kernel_rfl) (by intro pp hp;obtain rfl:=SJ.1 hp;exact Sa _) ?_;intro hcl hkn
  try simp only[Bn]
  refine' Fq [] 23 _ (i:=0) (v:=_) rfl (by kernel_rfl) (by kernel_rfl) (by kernel_rfl) hcl hkn (by rfl) 0 rfl (by kernel_rfl) (fun _ _ _ h=>h) rfl ?_ ?_
  rotate_left
  ·intro w' hA;have hc:w'.cell? ⟨bp,0,none⟩=some so:=(HBp.out.drew.grew hA).cell 0;go_simp;try with_reducible rfl
  clear hcl hkn;intro hcl hkn
  try simp only[Bn]
  refine' B1 (i:=1) (v:=_) rfl (by kernel_rfl) (by kernel_rfl) (by kernel_rfl) hcl hkn (by rfl) (fun _ _ _ h=>h) rfl ?_ ?_
  rotate_left
  ·intro w';go_simp;try with_reducible rfl
  clear hcl hkn;intro hcl hkn
  try simp only[Bn]
  refine' Fq [22,21] 23 _ (i:=2) (v:=_) rfl (by kernel_rfl) (by kernel_rfl) (by kernel_rfl) hcl hkn (by rfl) 0 rfl (by kernel_rfl) (fun _ _ _ h=>h) rfl ?_ ?_
  rotate_left
  ·intro w' hA;have hc:w'.cell? ⟨z,0,none⟩=some (.int .i64 x1.kind):=(HBz.out.drew.grew hA).cell 0;go_simp;try with_reducible rfl
  clear hcl hkn;intro hcl hkn
  try simp only[Bn]
  refine' B1 (i:=3) (v:=_) rfl (by kernel_rfl) (by kernel_rfl) (by kernel_rfl) hcl hkn (by rfl) (fun _ _ _ h=>h) rfl ?_ ?_
  rotate_left
  ·intro w';go_simp;try with_reducible rfl
  clear hcl hkn;intro hcl hkn
  try simp only[Bn]
  refine' Fq [22,21] 23 _ (i:=4) (v:=_) rfl (by kernel_rfl) (by kernel_rfl) (by kernel_rfl) hcl hkn (by rfl) 0 rfl (by kernel_rfl) (fun _ _ _ h=>h) rfl ?_ ?_
  rotate_left
  ·intro w' hA;have hc:w'.cell? ⟨z,1,none⟩=some (.int .i64 x1.fn):=(HBz.out.drew.grew hA).cell 1;go_simp;try with_reducible rfl
  clear hcl hkn;intro hcl hkn
  try simp only[Bn]
  refine' B1 (i:=5) (v:=_) rfl (by kernel_rfl) (by kernel_rfl) (by kernel_rfl) hcl hkn (by rfl) (fun _ _ _ h=>h) rfl ?_ ?_
  rotate_left
  ·intro w';go_simp;try with_reducible rfl
  clear hcl hkn;intro hcl hkn
  try simp only[Bn]
  refine' Fq [22,21] 23 _ (i:=6) (v:=_) rfl (by kernel_rfl) (by kernel_rfl) (by kernel_rfl) hcl hkn (by rfl) 0 rfl (by kernel_rfl) (fun _ _ _ h=>h) rfl ?_ ?_
  rotate_left
  ·intro w' hA;have hc:w'.cell? ⟨z,2,none⟩=some (.int .i64 x1.window):=(HBz.out.drew.grew hA).cell 2;go_simp;try with_reducible rfl
  clear hcl hkn;intro hcl hkn
  try simp only[Bn]
  refine' B1 (i:=7) (v:=_) rfl (by kernel_rfl) (by kernel_rfl) (by kernel_rfl) hcl hkn (by rfl) (fun _ _ _ h=>h) rfl ?_ ?_
  rotate_left
  ·intro w';go_simp;try with_reducible rfl
  clear hcl hkn;intro hcl hkn
  try simp only[Bn]
  refine' Fq [22,21] 23 _ (i:=8) (v:=_) rfl (by kernel_rfl) (by kernel_rfl) (by kernel_rfl) hcl hkn (by rfl) 0 rfl (by kernel_rfl) (fun _ _ _ h=>h) rfl ?_ ?_
  rotate_left
  ·intro w' hA;have hc:w'.cell? ⟨z,3,none⟩=some (.int .i64 x1.offset):=(HBz.out.drew.grew hA).cell 3;go_simp;try with_reducible rfl
  clear hcl hkn;intro hcl hkn
  try simp only[Bn]
  refine' B1 (i:=9) (v:=_) rfl (by kernel_rfl) (by kernel_rfl) (by kernel_rfl) hcl hkn (by rfl) (fun _ _ _ h=>h) rfl ?_ ?_
  rotate_left
  ·intro w';go_simp;try with_reducible rfl
  clear hcl hkn;intro hcl hkn
  try simp only[Bn]
  refine' Fq [22,21] 23 _ (i:=10) (v:=_) rfl (by kernel_rfl) (by kernel_rfl) (by kernel_rfl) hcl hkn (by rfl) 0 rfl (by kernel_rfl) (fun _ _ _ h=>h) rfl ?_ ?_
  rotate_left
  ·intro w' hA;have hc:w'.cell? ⟨z,4,none⟩=some (.int .i64 x1.k):=(HBz.out.drew.grew hA).cell 4;go_simp;try with_reducible rfl
  clear hcl hkn;intro hcl hkn
  try simp only[Bn]
  refine' B1 (i:=11) (v:=_) rfl (by kernel_rfl) (by kernel_rfl) (by kernel_rfl) hcl hkn (by rfl) (fun _ _ _ h=>h) rfl ?_ ?_
  rotate_left
  ·intro w';go_simp;try with_reducible rfl
  clear hcl hkn;intro hcl hkn
  try simp only[Bn]
  refine NB [22,21] 23 _ (i:=12) rfl (by kernel_rfl) (by kernel_rfl) (by kernel_rfl) hcl hkn (by rfl) 0 rfl (by kernel_rfl) 24 (.tmp 26) rfl ⟨z,5,none⟩ rfl (AN x1.num x1.den) _ (fun w' hA=>MT ((HBz.out.drew.grew hA).rangeN 5 (AN x1.num x1.den) rfl)) Tryz.underlying24 rfl Ad (fun _ _ _ h=>h) rfl ?_;clear hcl hkn;intro hcl hkn
  try simp only[Bn]
  refine' B1 (i:=13) (v:=_) rfl (by kernel_rfl) (by kernel_rfl) (by kernel_rfl) hcl hkn (by rfl) (fun _ _ _ h=>h) rfl ?_ ?_
  rotate_left
  ·intro w';go_simp;try with_reducible rfl
  clear hcl hkn;intro hcl hkn
  try simp only[Bn]
  refine' Fq [22,21] 23 _ (i:=14) (v:=_) rfl (by kernel_rfl) (by kernel_rfl) (by kernel_rfl) hcl hkn (by rfl) 0 rfl (by kernel_rfl) (fun _ _ _ h=>h) rfl ?_ ?_
  rotate_left
  ·intro w' hA;have hc:w'.cell? ⟨z,7,none⟩=some (.string x1.name):=(HBz.out.drew.grew hA).cell 7;go_simp;try with_reducible rfl
  clear hcl hkn;intro hcl hkn
  try simp only[Bn]
  refine' B1 (i:=15) (v:=_) rfl (by kernel_rfl) (by kernel_rfl) (by kernel_rfl) hcl hkn (by rfl) (fun _ _ _ h=>h) rfl ?_ ?_
  rotate_left
  ·intro w';go_simp;try with_reducible rfl
  clear hcl hkn;intro hcl hkn
  try simp only[Bn]
  refine' Fq [22,21,17] 23 _ (i:=16) (v:=_) rfl (by kernel_rfl) (by kernel_rfl) (by kernel_rfl) hcl hkn (by rfl) 0 rfl (by kernel_rfl) (fun _ _ _ h=>h) rfl ?_ ?_
  rotate_left
  ·intro w' hA;have hc:w'.cell? ⟨z,8,none⟩=some (.slice A1 n1 c1):=(HBz.out.drew.grew hA).cell 8;go_simp;try with_reducible rfl
  clear hcl hkn;intro hcl hkn
  try simp only[Bn]
  refine' B1 (i:=18) (v:=_) rfl (by kernel_rfl) (by kernel_rfl) (by kernel_rfl) hcl hkn (by rfl) (fun _ _ _ h=>h) rfl ?_ ?_
  rotate_left
  ·intro w';go_simp;try with_reducible rfl
  clear hcl hkn;intro hcl hkn
  try simp only[Bn]
  refine' Fq [22,21,20] 23 _ (i:=19) (v:=_) rfl (by kernel_rfl) (by kernel_rfl) (by kernel_rfl) hcl hkn (by rfl) 0 rfl (by kernel_rfl) (fun _ _ _ h=>h) rfl ?_ ?_
  rotate_left
  ·intro w' hA;have hc:w'.cell? ⟨z,9,none⟩=some (.slice A2 n2 c2):=(HBz.out.drew.grew hA).cell 9;go_simp;try with_reducible rfl
  clear hcl hkn;intro hcl hkn
  try simp only[Bn]
  refine AV hcl (i:=17) (by kernel_rfl) rfl rfl (fun K hK=>?_);go_simp;(with_reducible refine(HCM.out _ g0).mono ?_);rintro e4 wa ⟨uwa,rfl,hwa,kwa⟩;obtain⟨Bwa,mwa,dwa,rfl, -, -⟩:=hwa.slice;have ga:=g0.trans kwa;refine hK _ _ (AJ (.inr ga)) ?_;clear hK K;clear hcl hkn;intro hcl hkn
  try simp only[Bn]
  refine AV hcl (i:=20) (by kernel_rfl) rfl rfl (fun K hK=>?_);go_simp;(with_reducible refine(HCS.out _ ga).mono ?_);rintro e4 wb ⟨uwb,rfl,hwb,kwb⟩;obtain⟨Bwb,mwb,dwb,rfl, -, -⟩:=hwb.slice;have gb:=ga.trans kwb;refine hK _ _ (AJ (.inr gb)) ?_;clear hK K;clear hcl hkn;intro hcl hkn
  try simp only[Bn]
  refine B1 (i:=21) rfl (by kernel_rfl) (by kernel_rfl) (by kernel_rfl) hcl hkn (by rfl) (fun _ _ _ h=>h) rfl (T3 79 #[(0,.tmp 17),(1,.tmp 19),(2,.tmp 21),(3,.tmp 23),(4,.tmp 25),(5,.tmp 27),(6,.tmp 29),(7,.tmp 32),(8,.tmp 35)] rfl _ _ (UL x1.kind x1.fn x1.window x1.offset x1.k x1.num x1.den x1.name Bwa Bwb mwa mwb dwa dwb) (by simp[Act.eval,Act.put])) ?_;clear hcl hkn;intro hcl hkn
  try simp only[Bn]
  refine AV hcl (i:=22) (by kernel_rfl) rfl rfl (fun K hK=>?_);refine TQ (.tmp 36) rfl (e:=x1) (v1:= .slice Bwa mwa dwa) (v2:= .slice Bwb mwb dwb) rfl ?_;refine hK _ _ (AJ (.inr (gb.alloc _))) ?_;clear hK K;clear hcl hkn;intro hcl hkn
  try simp only[Bn]
  have gb1:A5 W wb:=gd.trans gb;refine AV hcl (i:=23) (by kernel_rfl) rfl rfl (fun K hK=>?_);refine TY Us (.tmp 15) (.tmp 37) rfl rfl ((HM.out.grew gb1).alloc _) rfl (Sc wb 79 (P4 x1 (.slice Bwa mwa dwa) (.slice Bwb mwb dwb)).toArray) (Ta _ _ _ _ _ _ _) rfl (by have h1:=HI.out.1;rw[h1];have:=HLn.out;omega) (by have h1:=gb1.size;have h2:=HBz.out.lt;have:=HMz.out;simp only[World.size_alloc];omega) ?_;intro v8 w8 hM8 k8 ho8;obtain⟨A8,n8,q8,rfl, -, -⟩:=hM8.slice;refine hK _ _ (AJ (.inl (by kernel_rfl))) ?_;clear hK K;clear hcl hkn;intro hcl hkn
  try simp only[Bn]
  have hown:∀b,so.ownBlock=some b→w4.heap.size≤b:=fun b hb=>(HM.out.lt b hb).1
  have hb8:Ag w8 bp 41 #[so]:=((HBp.out.grew gb1).alloc _).keep k8 (fun e=>by have:=hown _ e;have:=HZ.out;omega);have c8r:w8.cell? ⟨bp,0,none⟩=some so:=hb8.cell 0;have f8r:w8.frozen? ⟨bp,0,none⟩=false:=hb8.frozen 0;have HB8:=S9 hb8;have HM8:=S9 (SC hM8 (SC k8 ho8));have HGB:=S9 gb1;have HCa:=S9 (SC hwa (SC kwb hwb));clear hb8 hM8 k8 ho8 gb1 hown hwa hwb;refine AV hcl (i:=24) (by kernel_rfl) rfl rfl (fun K hK=>?_);go_simp;refine hK _ _ (AJ (.inl (by kernel_rfl))) ?_;clear hK K;clear hcl hkn;intro hcl hkn
  try simp only[Bn]
  refine BK (by kernel_rfl) ?_ _;clear hcl hkn c8r f8r;obtain⟨hM8,k8,ho8⟩:=HM8.out;obtain⟨hwa,kwb,hwb⟩:=HCa.out;have kso:AC (fun i=>so.ownBlock=some i) (wb.alloc (Obj.cells (P4 x1 (.slice Bwa mwa dwa) (.slice Bwb mwb dwb)).toArray 79)) w8:=k8;have ho9:(Value.slice A8 n8 q8).ownBlock=so.ownBlock∨(Value.slice A8 n8 q8).ownBlock=some (wb.heap.size+1):=by
   rcases ho8 with h|h
   ·exact .inl h
   right;rw[h];simp
  have hgw:A5 W (wb.alloc (Obj.cells (P4 x1 (.slice Bwa mwa dwa) (.slice Bwb mwb dwb)).toArray 79)):=HGB.out.alloc _;have c0:W.cell? ⟨bp,0,none⟩=some so:=HBp.out.cell 0;clear k8 ho8 HM8 HCa HR HRg HCM HCS;have hb9:=HB8.out.set_ 0 (.slice A8 n8 q8);have hks:AC (fun b=>b=bp) w8 (w8.setCell ⟨bp,0,none⟩ (.slice A8 n8 q8)):=Sf (S:=fun b=>b=bp) (p:=⟨bp,0,none⟩) (Se _ w8) (.inl rfl) _;have hka:AC (Sw bp W) wa (w8.setCell ⟨bp,0,none⟩ (.slice A8 n8 q8)):=Sb (Sb (kwb.alloc _).keeps kso (fun i hi e=> .inr ⟨so,c0,e⟩)) hks (fun i hi e=> .inl e);have hkb:AC (Sw bp W) wb (w8.setCell ⟨bp,0,none⟩ (.slice A8 n8 q8)):=Sb (Sb ((Sa wb).alloc _).keeps kso (fun i hi e=> .inr ⟨so,c0,e⟩)) hks (fun i hi e=> .inl e);have hk9:AC (Sw bp W) W (w8.setCell ⟨bp,0,none⟩ (.slice A8 n8 q8)):=Sb (Sb hgw.keeps kso (fun i hi e=> .inr ⟨so,c0,e⟩)) hks (fun i hi e=> .inl e);have hm9:=hM8.keep hks (fun i hi e=>by have:=(hM8.lt i hi).1;have:=HZ.out;omega);generalize w8.setCell ⟨bp,0,none⟩ (.slice A8 n8 q8)=wc at*;have hplt:∀b,W.heap.size≤b→¬Sw bp W b:=by
   rintro b hb (h|⟨v',hv',ho'⟩)
   ·have:=HBp.out.lt;omega
   rw[c0]at hv';obtain rfl:=SI hv';have:=(HM.out.lt b ho').2;omega
  have hdw:=gd.size;have hgB:=HGB.out.size;have hMz:=HMz.out;have hwbsz:=hgw.size;have hwas:=kwb.size;refine⟨rfl,⟨hk9.size,fun k o hk ho=>?_⟩,hk9,?_⟩
  ·refine(hk9.block k (SO.1 hk).1 fun hS=>?_).trans hk;rcases hS with rfl|⟨v',hv',ho'⟩
   ·have:=HBp.out;unfold Ag at this;rw[this]at hk;obtain rfl:=SI hk;cases ho
   rw[c0]at hv';obtain rfl:=SI hv';rcases HM.out.form with⟨rfl, -⟩|⟨g,cap',cur,rfl, -,hbox, -⟩
   ·cases ho'
   obtain rfl:g=k:=by simpa[Value.ownBlock]using ho'
   unfold Ag at hbox;rw[hbox]at hk;obtain rfl:=SI hk;cases ho
  rw[List.map_append];refine⟨_,_,hb9,hm9,?_,Sb HGW.out hk9 fun i hi hS=>?_⟩
  ·refine TH.snoc (HI.out.keep (S:=Sw bp W) ?_ hk9) ⟨_,_,rfl,hwa.keep (S:=Sw bp W) ?_ hka,hwb.keep (S:=Sw bp W) ?_ hkb⟩
   ·rintro b ⟨h1,h2,h3⟩;refine⟨h2,?_,h1,by have:=hk9.size;omega,fun e=>?_⟩
    ·rintro(h|⟨v',hv',ho'⟩)
     ·have:=HZ.out;have:=HG4w.out.size;omega
     rw[c0]at hv';obtain rfl:=SI hv';exact h3 ho'
    rcases ho9 with h|h
    ·exact h3 (h.symm.trans e)
    rw[e]at h;obtain rfl:=SI h;omega
   ·rintro b ⟨h1,h2⟩;refine⟨h2,hplt b (by omega),.inr (by omega),by have:=hka.size;omega,fun e=>?_⟩;rcases ho9 with h|h
    ·have:=(HM.out.lt b (h.symm.trans e)).2;omega
    rw[e]at h;obtain rfl:=SI h;omega
   rintro b ⟨h1,h2⟩;refine⟨h2,hplt b (by have:=(gd.trans ‹A5 W.drew wa›).size;omega),.inr (by have:=(gd.trans ‹A5 W.drew wa›).size;omega),by have:=hkb.size;omega,fun e=>?_⟩;rcases ho9 with h|h
   ·have:=(HM.out.lt b (h.symm.trans e)).2;have:=(gd.trans ‹A5 W.drew wa›).size;omega
   rw[e]at h;obtain rfl:=SI h;omega
  rcases hS with h|⟨v',hv',ho'⟩
  ·have:=HZ.out;omega
  rw[c0]at hv';obtain rfl:=SI hv';have:=(HM.out.lt i ho').1;have:=HG4w.out.size;omega
 case done=>
  rintro xs W ⟨hxs,hti⟩ hK;rw[hxs]at hti;obtain⟨v,rows,hb,hm,hi,hg⟩:=hti;have c0:W.cell? ⟨bp,0,none⟩=some v:=hb.cell 0;have HB:=S9 (SC hb (SC hm (SC hi hg)));clear hb hm hi hg
  gi_wp2
  refine⟨by simp,.inl ⟨_,_,rfl,run_takeDeferred hK,?_⟩⟩;have hab:OwnFrom w4.heap.size (Sk w bp w4.heap.size):=by
   intro pre A B row h hg hr;exact Sk.abides (by have:=HZ.out;omega) HG4w.out.size _ h ⟨hg.os,hg.tape,hg.output,hg.size,fun i hi hn=>hg.block i hi fun e=>hn e.symm⟩ hr
  obtain⟨v',rows',hb',hm',hi',hg'⟩:=OwnFrom.putObj (I:=Sk w bp w4.heap.size) hab (.deferred none) ⟨v,rows,HB.out.1,HB.out.2.1,HB.out.2.2.1,HB.out.2.2.2⟩ (SD _) hK rfl;have hv':v'=v:=by
   have h1:=hb'.cell 0;rw[World.cell?_of_block (a:=⟨bp,0,none⟩) (World.putObj_heap_other (by show bp≠w4.heap.size;have:=HZ.out;omega)),c0]at h1;exact(SI h1).symm
  subst hv';exact⟨.tuple #[v',.int .i64 0],by simp[results,Tryz.func18],v',rfl,hm'.plan (hi'.keep (S:=fun _=>False) (fun b hb=>⟨hb.2.1,fun h=>h,hb.2.1⟩) (Sa _)) (fun b hb=>(hm'.lt b hb).2),hg'⟩
end Go.Proofs.YthpflelgbadkcaaGreatDoor
