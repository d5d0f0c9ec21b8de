/- What the card of the law stands on: LexD, ParG, Becm, LivP, LateG. -/
import Derived.Test.YtkclnhpofkaclaaGreatDoorRewriteFoldP38
import Derived.Test.YtkclnhpofkaclaaGreatDoorRewriteFoldP13
import Derived.Test.YtkclnhpofkaclaaGreatDoorRewriteFoldP01
import Derived.Test.YtkclnhpofkaclaaGreatDoorRewriteFoldP37
import Derived.Test.YtkclnhpofkaclaaGreatDoorRewriteFoldP19
import Derived.Defers
import Derived.Recover
import Derived.RegionTactic
import Derived.BigRegion
import Derived.Test.YtkclnhpofkaclaaGreatDoorRewriteFoldP04
import Derived.Test.YtkclnhpofkaclaaGreatDoorRewriteFoldP14
import Derived.Test.YtkclnhpofkaclaaGreatDoorRewriteFoldP30
set_option maxRecDepth 100000
set_option maxHeartbeats 12800000
set_option linter.unusedVariables false
set_option linter.unusedSimpArgs false
namespace Go.Proofs.YtkclnhpofkaclaaGreatDoor
open Go.RowKit Go.Shelf Pl
attribute [local go_sem] Oper.semAt_some
theorem TT:Kg Tryz.prog 87 131 4 40 (.agg #[.int .i64 0,.string ⟨#[]⟩,.int .i64 0,.int .i64 0]):=⟨Tryz.underlying87,by kernel_rfl,rfl,by decide,by decide⟩
theorem A5.others {W W':World} (h:A5 W W'):KeepsOthers W W':=⟨h.size,fun k o hk _=>(h.block k (Ul.1 hk).1 (fun h=>h)).trans hk⟩
def PA (ts:List Bw) (w:World) (e:Ending) (w':World):Prop:=∃v,e= .returned (.tuple #[v,.int .i64 0,.int .i64 0])∧BE w' (C9 0 w.heap.size w'.heap.size) 4 v (ts.map Bw.cells)∧A5 w w'
theorem Eb.abides {w0:World} {bt M:Nat} (hb:bt<M) (h0:w0.heap.size≤M):OwnFrom M (Eb w0 bt M):=by
 intro pre A B row h hg hr;obtain⟨v,hb1,hm,hgr⟩:=h;have hk:A4 (fun i=>row=some i) A B:=⟨hg.os,hg.tape,hg.output,hg.size,fun i hi hn=>hg.block i hi fun e=>hn e.symm⟩;refine⟨v,hb1.keep hk (fun e=>by have:=(hr _ e).1;omega),hm.keep hk (fun i hi e=>?_),Uw hgr hk fun i hi e=>by have:=(hr _ e).1;omega⟩;obtain⟨o,ho,hc⟩:=(hr _ e).2;rcases hm.form with⟨rfl, -⟩|⟨g,cap,cur,rfl, -,hbox, -⟩
 ·cases hi
 obtain rfl:g=i:=by simpa[Value.ownBlock]using hi
 unfold AK at hbox;rw[hbox]at ho;obtain rfl:=Uf ho;cases hc
theorem NX {s:ByteArray}:∀{i:Nat} {ts:List Bw},DY s i ts→ts.length+i≤max s.size i:=by
 intro i ts h
 induction h with
 |stop h=>simp;omega
 |blank h1 _ _ ih=>omega
 |@tok i j t ts h1 hb ht _ ih=>
  have hj:i<j:=by
   by_cases hl:Fd (Ew s i)=true
   ·obtain⟨-, -,rfl⟩:=G0 ht hl;exact Hw h1 (by unfold Ce;rw[hl];rfl)
   by_cases hd:C4 (Ew s i)=true
   ·obtain⟨-, -,rfl⟩:=Em ht (by simpa using hl) hd;exact Hw h1 hd
   obtain⟨-,h2, -,rfl⟩:=Ef ht (by simpa using hl) (by simpa using hd);have:=(FH h1 h2).2;omega
  have hj2:j≤s.size:=by
   by_cases hl:Fd (Ew s i)=true
   ·obtain⟨-, -,rfl⟩:=G0 ht hl;exact(E8 _ _ (by omega)).2
   by_cases hd:C4 (Ew s i)=true
   ·obtain⟨-, -,rfl⟩:=Em ht (by simpa using hl) hd;exact(E8 _ _ (by omega)).2
   obtain⟨-,h2, -,rfl⟩:=Ef ht (by simpa using hl) (by simpa using hd);have:=(FH h1 h2).1;omega
  simp only[List.length_cons];omega
theorem MZ (s:ByteArray) (ts:List Bw) (hs:s.size≤2000) (hlx:DY s 0 ts) (w:World):Calls Tryz.prog 76 #[.string s] w (PA ts w):=by
 have hlen:ts.length≤2000:=by have:=NX hlx;omega
 have t0:decide ((s.size:Int)>2000)=false:=by simp;omega
 refine(callsIn_wide (n:=5)).1 ?_;refine callsIn_of_wp_marks Tryz.func76 rfl trivial ?_ rfl;simp only[Tryz.ntmps76,List.size_toArray,List.length_cons,List.length_nil,Nat.reduceAdd,Nat.reduceSub,Array.replicate_succ,Array.replicate_zero,List.push_toArray,List.append_toArray,List.nil_append,List.cons_append];have HLX:=UX hlx;have HLN:=UX hlen;have HSZ:=UX hs;clear hlx hlen hs
 gi_wp2
 have hq0:E2 ((w.alloc (.cells #[.string s,.int .i64 0,.int .i64 0] 128)).alloc (.cells #[.slice none 0 0] 87)) w.heap.size s 0 0:=(Ux w 128 #[.string s,.int .i64 0,.int .i64 0]).alloc _;have hb0:=Ux (w.alloc (.cells #[.string s,.int .i64 0,.int .i64 0] 128)) 87 #[.slice none 0 0];have hg0:A5 w ((w.alloc (.cells #[.string s,.int .i64 0,.int .i64 0] 128)).alloc (.cells #[.slice none 0 0] 87)):=((Uv w).alloc _).alloc _;have hs0:((w.alloc (.cells #[.string s,.int .i64 0,.int .i64 0] 128)).alloc (.cells #[.slice none 0 0] 87)).heap.size=w.heap.size+2:=by simp
 rw[World.size_alloc]at hb0;generalize (w.alloc (.cells #[.string s,.int .i64 0,.int .i64 0] 128)).alloc (.cells #[.slice none 0 0] 87)=W0 at*;have hi0:Eb w (w.heap.size+1) W0.heap.size [] W0:=⟨_,hb0,⟨World.ownsRow_nil _ _ _ _,by intro r hr;cases hr⟩,hg0⟩;refine Gm (F:=Fence.wide) (n:=5) (α:=Bw) rfl (by omega) (gf:=117) (fs:=#[.pointer (some ⟨w.heap.size,0,none⟩)]) (lb:=#[]) rfl trivial (enters_of Tryz.func117 (by kernel_rfl) rfl) (encs:=fun x=>#[.agg x.cells.toArray]) (fun _=>rfl) (fun pre x=>∃us,pre++x::us=ts)
  (Eb w (w.heap.size+1) W0.heap.size) (Eb.abides (by omega) (by omega)) hi0
  (fun x z=>{ tmps:=#[.string s,undef,.slice none 0 0,.int .i64 0,.int .i64 0,.pointer (some ⟨w.heap.size,0,none⟩),.pointer (some ⟨w.heap.size+1,0,none⟩),.pointer (some ⟨z,0,none⟩),.string s,.int .i64 (s.size:Nat),.bool false,.string s,.agg #[.string s,.int .i64 0,.int .i64 0],.pointer (some ⟨w.heap.size,0,none⟩),.pointer (some ⟨w.heap.size,0,none⟩),.func (.func 117) #[.pointer (some ⟨w.heap.size,0,none⟩)] #[],.agg x.cells.toArray,undef,undef,undef,undef,undef,undef,undef,undef,undef,undef,undef,undef,undef,undef,undef,undef,undef,undef],defers:=[] }) 131 (fun x=>x.cells.toArray)
  (Mc (w.heap.size+1)) ?hS (fun xs W=>xs=ts∧Eb w (w.heap.size+1) W0.heap.size xs W∧E2 W w.heap.size s s.size 0) ?hR ?hseq ?assign ?body ?hSz ?done
 case hS=>
  intro W W' i hb hs;rcases hs with hs|⟨v,hv,ho⟩
  ·exact .inl hs
  exact .inr ⟨v,(World.cell?_of_block (a:=⟨w.heap.size+1,0,none⟩) (hb (w.heap.size+1) (by omega))).symm.trans hv,ho⟩
 case hR=>
  intro xs A B row h hg hr;have hk:A4 (fun i=>row=some i) A B:=⟨hg.os,hg.tape,hg.output,hg.size,fun i hi hn=>hg.block i hi fun e=>hn e.symm⟩;exact⟨h.1,Eb.abides (by omega) (by omega) xs A B row h.2.1 hg hr,AK.keep h.2.2 hk fun e=>by have:=(hr _ e).1;omega⟩
 case hseq=>
  intro l oL oD W hl hoL hoD hI hG hY;refine(QY l w.heap.size (w.heap.size+1) W0.heap.size w oL oD W0.heap.size s (by have:=HSZ.out;omega) ⟨Ua _,by omega,by omega,Ua _,hl⟩ ts HLX.out hY W (hq0.grew hG) hI hoL hoD).mono ?_;rintro e W' ⟨he,xs,h1,h2,h3⟩;exact⟨he,xs,h1,h2,h3⟩
 case hSz=>
  intro pre W z hI hs;have h1:=hI.choose_spec.1.lt;rcases I2 hI rfl hs with h|h
  ·omega
  exact h.2
 case assign=>
  intro l x W K hK
  gi_wp2_with ((with_reducible refine FP 131 (.tmp 7) (.tmp 16) rfl ?_);refine KO 131 (.tmp 7) (.tmp 16) W.heap.size x.cells [.int .i64 0,.string ⟨#[]⟩,.int .i64 0,.int .i64 0] 131 Kj rfl (F6 _ _ _ _) rfl rfl rfl rfl (Ux W 131 _) ?_;intro w8 hb8 k8 d8)
  have hG:A5 W w8:=Uw ((Uv W).alloc _) k8 (fun i hi e=>by omega);exact hK w8 hG hG.others hb8
 case body=>
  rintro l pre x z W ⟨us,hus⟩ hI hbz hWl hlz hnz;obtain⟨v,hb,hm,hg⟩:=hI;have hpl:(pre.map Bw.cells).length<1099511627:=by
   have h1:=HLN.out;rw[←hus]at h1;simp at h1 ⊢;omega
  clear hus;obtain⟨tk,tt,tn,tf⟩:=x;have c0:W.cell? ⟨w.heap.size+1,0,none⟩=some v:=hb.cell 0;have f0:W.frozen? ⟨w.heap.size+1,0,none⟩=false:=hb.frozen 0;have z0:W.cell? ⟨z,0,none⟩=some (.int .i64 (tk:Nat)):=hbz.cell 0;have z1:W.cell? ⟨z,1,none⟩=some (.string tt):=hbz.cell 1;have z2:W.cell? ⟨z,2,none⟩=some (.int .i64 (tn:Nat)):=hbz.cell 2;have z3:W.cell? ⟨z,3,none⟩=some (.int .i64 (tf:Nat)):=hbz.cell 3;have HB:=UX (UZ hb (UZ hm hg));have hbs:W0.heap.size≤W.heap.size:=by have:=hbz.lt;omega
  clear hb hm hg hbz
  gi_wp2_with (gi_at_builtin;refine Lt TT rfl (.tmp 17) (.tmp 19) rfl rfl (HB.out.2.1.keep ((Uz (fun _=>False) W).alloc _) (fun _ _ h=>h)) W.heap.size 1 (Bw.cells ⟨tk,tt,tn,tf⟩) 131 rfl (Ua _) (Ux W 131 _) rfl (F6 _ _ _ _) hpl (by simp;omega) ?_;intro r n' cap w1 hM1 hk1;have hgw:A5 W (W.alloc (.cells (Bw.cells ⟨tk,tt,tn,tf⟩).toArray 131)):=(Uv W).alloc _;have hbx:=(HB.out.1.grew hgw).keep hk1 (fun e=>by have:=(HB.out.2.1.lt _ e).1;omega);have cx:w1.cell? ⟨w.heap.size+1,0,none⟩=some v:=hbx.cell 0;have fx:=hbx.frozen 0;have HX:=UX (UZ hM1 (UZ hk1 (UZ hgw hbx)));clear hM1 hk1 hgw hbx)
  obtain⟨hM1,hk1,hgw,hbx⟩:=HX.out;have hb9:AK (w1.setCell ⟨w.heap.size+1,0,none⟩ (.slice (some ⟨r,0,none⟩) n' cap)) (w.heap.size+1) 87 #[.slice (some ⟨r,0,none⟩) n' cap]:=hbx.set_ 0 _;have hks:A4 (fun b=>b=w.heap.size+1) w1 (w1.setCell ⟨w.heap.size+1,0,none⟩ (.slice (some ⟨r,0,none⟩) n' cap)):=V0 (S:=fun b=>b=w.heap.size+1) (p:=⟨w.heap.size+1,0,none⟩) (Uz _ w1) (.inl rfl) _;have hk9:A4 (Mc (w.heap.size+1) W) W (w1.setCell ⟨w.heap.size+1,0,none⟩ (.slice (some ⟨r,0,none⟩) n' cap)):=Uw (Uw hgw.keeps hk1 (fun i hi e=> .inr ⟨v,c0,e⟩)) hks (fun i hi e=> .inl e);refine⟨⟨hk9.size,fun k o hk ho=>?_⟩,hk9,?_⟩
  ·refine(hk9.block k (Ul.1 hk).1 fun hS=>?_).trans hk;rcases hS with rfl|⟨v',hv',ho'⟩
   ·have:=HB.out.1;unfold AK at this;rw[this]at hk;obtain rfl:=Uf hk;cases ho
   rw[c0]at hv';obtain rfl:=Uf hv';rcases HB.out.2.1.form with⟨rfl, -⟩|⟨g,cap',cur,rfl, -,hbox, -⟩
   ·cases ho'
   obtain rfl:g=k:=by simpa[Value.ownBlock]using ho'
   unfold AK at hbox;rw[hbox]at hk;obtain rfl:=Uf hk;cases ho
  refine⟨_,hb9,?_,Uw HB.out.2.2 hk9 fun i hi hS=>?_⟩
  ·rw[List.map_append,←hs0];exact hM1.keep hks (fun i hi e=>by have:=(hM1.lt i hi).1;omega)
  rcases hS with h|⟨v',hv',ho'⟩
  ·omega
  rw[c0]at hv';obtain rfl:=Uf hv';have:=(HB.out.2.1.lt i ho').1;omega
 case done=>
  rintro xs W ⟨rfl,hti,hq⟩ hK;obtain⟨v,hb,hm,hg⟩:=hti;have c0:W.cell? ⟨w.heap.size+1,0,none⟩=some v:=hb.cell 0;have c2:W.cell? ⟨w.heap.size,2,none⟩=some (.int .i64 0):=hq.cell 2;have HB:=UX (UZ hb (UZ hm hg));clear hb hm hg hq
  gi_wp2
  refine⟨by simp,.inl ⟨_,_,rfl,run_takeDeferred hK,?_⟩⟩;obtain⟨v',hb',hm',hg'⟩:=OwnFrom.putObj (I:=Eb w (w.heap.size+1) W0.heap.size) (Eb.abides (by omega) (by omega)) (.deferred none) ⟨v,HB.out.1,HB.out.2.1,HB.out.2.2⟩ (Ua _) hK rfl;have hv':v'=v:=by
   have h1:=hb'.cell 0;rw[World.cell?_of_block (a:=⟨w.heap.size+1,0,none⟩) (World.putObj_heap_other (by show w.heap.size+1≠W0.heap.size;omega)),c0]at h1;exact(Uf h1).symm
  subst hv';exact⟨.tuple #[v',.int .i64 0,.int .i64 0],by simp[results,Tryz.func76],v',rfl,hm'.own.keep (S:=fun _=>False) (fun b hb=>⟨(hm'.lt b hb).2,fun h=>h,.inr (by have:=(hm'.lt b hb).1;omega),(hm'.lt b hb).2⟩) (Uv _),hg'⟩
end Go.Proofs.YtkclnhpofkaclaaGreatDoor
namespace Go.Proofs.YtkclnhpofkaclaaGreatDoor
open Go.RowKit Pl
theorem J8 (p1 p2 p3 p4:Value) (w:World):
  CallsD Tryz.prog 77 #[p1,p2,p3,p4] .returning w fun e u' w'=>u'= .returning∧(e= .returned (.tuple #[])∧w'=w):=by
 refine callsD_of_wpS Tryz.func77 rfl fun c₀ cs hu=>?_
 apply wpS_seq;apply wpS_region;simp[wpOpsS,go_sem,recoverD,hu,Tryz.ntmps77,Exit.thenS];apply wpS_seq;apply wpS_region;simp[wpOpsS,go_sem,recoverD,hu,Tryz.ntmps77,Exit.thenS];refine wpS_cond (t:=false) (by simp[Act.eval,Array.replicate]) ?_;simp only[Bool.false_eq_true,if_false];refine wpS_of_wp (wp_skip ?_);cases c₀;simp_all [bodyPostS,results,Tryz.results77]
def Nx (t:Ex) (w:World) (e:Ending) (w':World):Prop:=∃cs,e= .returned (.tuple #[.agg cs.toArray,.int .i64 0,.int .i64 0])∧AN w' (C9 0 w.heap.size w'.heap.size) t cs∧A5 w w'
theorem LW {s:ByteArray} {e:Ex} (h:KI s=some e):∃ts,DY s 0 ts∧C6 (4*ts.length+4) 0 ts=some (e,[]):=by
 unfold KI at h;split at h
 ·cases h
 ·rename_i ts hl
  split at h
  ·rename_i e' hp
   obtain rfl:=Uf h;exact⟨ts,Fr _ _ _ hl,hp⟩
  cases h
theorem J5 {fn:Func} {p q r:Tmp} {ty t1 t2:TypeId} (h:fn.results=#[.cell p ty,.cell q t1,.cell r t2]) {tmps:Array Value} {w:World} {a b c:Addr} {v v1 v2:Value} (hp:tmps.getD p undef= .pointer (some a)) (hq:tmps.getD q undef= .pointer (some b)) (hr:tmps.getD r undef= .pointer (some c)) (hl:(loadVar ty a).run Tryz.prog w= .ok v w) (hl1:(loadVar t1 b).run Tryz.prog w= .ok v1 w) (hl2:(loadVar t2 c).run Tryz.prog w= .ok v2 w):
  (results fn tmps).run Tryz.prog w= .ok (.tuple #[v,v1,v2]) w:=by
 simp only[results,h];rw[Array.getD_eq_getD_getElem?]at hp hq hr
 first|(simp[hp,hq,hr,Result.andThen,hl,hl1,hl2,asAddr];done)|(simp[Sem.run_bind,hp,hq,hr,Result.andThen,hl,hl1,hl2,asAddr];done)|(simp only[Sem.run_bind];simp[hp,hq,hr,Result.andThen,hl,hl1,hl2,asAddr])
theorem BE.slice3 {w:World} {Q:Nat→Prop} {sz:Nat} {v:Value} {rows:List (List Value)} (h:BE w Q sz v rows):∃A n c,v= .slice A n c∧n=rows.length∧n≤c:=by
 obtain⟨A,c,rfl,hc, -⟩:=h;exact⟨A,_,c,rfl,rfl,hc⟩
theorem OY (s:ByteArray) (t:Ex) (hs:s.size≤2000) (hp:KI s=some t) (hf:AD t≤200∧Ae t≤12) (w:World) (ht:Ct w):Calls Tryz.prog 44 #[.string s] w (Nx t w):=by
 have hmf:∀(fn:Fn) (first cap:Array Value) (w:World),(Instr.makeFunc fn first cap).run Tryz.prog w= .ok (.func fn first cap) w:=fun _ _ _ _=>rfl
 obtain⟨ts,hlx,hpp⟩:=LW hp;have HTk:=UX (MZ s ts hs hlx);have hb1:=(((Ux w 9 #[.string s]).alloc (.cells (AE 0 0).toArray 29)).alloc (.cells #[.int .i64 0] 3)).alloc (.cells #[.int .i64 0] 45);have hb2:=((Ux (w.alloc (.cells #[.string s] 9)) 29 (AE 0 0).toArray).alloc (.cells #[.int .i64 0] 3)).alloc (.cells #[.int .i64 0] 45);have hb3:=(Ux ((w.alloc (.cells #[.string s] 9)).alloc (.cells (AE 0 0).toArray 29)) 3 #[.int .i64 0]).alloc (.cells #[.int .i64 0] 45);have hb4:=Ux (((w.alloc (.cells #[.string s] 9)).alloc (.cells (AE 0 0).toArray 29)).alloc (.cells #[.int .i64 0] 3)) 45 #[.int .i64 0];simp only[World.size_alloc]at hb1 hb2 hb3 hb4;have hG0:A5 w ((((w.alloc (.cells #[.string s] 9)).alloc (.cells (AE 0 0).toArray 29)).alloc (.cells #[.int .i64 0] 3)).alloc (.cells #[.int .i64 0] 45)):=((((Uv w).alloc _).alloc _).alloc _).alloc _;have hs0:((((w.alloc (.cells #[.string s] 9)).alloc (.cells (AE 0 0).toArray 29)).alloc (.cells #[.int .i64 0] 3)).alloc (.cells #[.int .i64 0] 45)).heap.size=w.heap.size+4:=by simp
 have HPP:=UX hpp;have HFt:=UX hf;have HTb:=UX ht;have hlow:K4 w.heap.size:=⟨ht.1.1,ht.2.2.1,ht.2.1.1⟩;have HLow:=UX hlow;clear hs hp hlx hpp hf ht hlow;go_enter_defers Tryz.func44,Tryz.ntmps44;go_upto_region 1 with fail;change Code.wp _ _ _ _ ((((w.alloc (.cells #[.string s] 9)).alloc (.cells (AE 0 0).toArray 29)).alloc (.cells #[.int .i64 0] 3)).alloc (.cells #[.int .i64 0] 45));generalize (((w.alloc (.cells #[.string s] 9)).alloc (.cells (AE 0 0).toArray 29)).alloc (.cells #[.int .i64 0] 3)).alloc (.cells #[.int .i64 0] 45)=w1 at*;have HS:=UX hs0;have HB:=UX (UZ hb1 (UZ hb2 (UZ hb3 hb4)));have c1:w1.cell? ⟨w.heap.size,0,none⟩=some (.string s):=hb1.cell 0;clear hs0 hb1 hb2 hb3 hb4;go_upto_region 2 with(go_at_call 76;(with_reducible refine(HTk.out w1).mono ?_);rintro e3 w2 ⟨v,rfl,hv,k2⟩;obtain⟨Av,mv,cv,rfl,hmv, -⟩:=hv.slice3;have b3:=HB.out.2.2.1.grew k2;have b4:=HB.out.2.2.2.grew k2;have a3:w2.cell? ⟨w.heap.size+2,0,none⟩=some (.int .i64 0):=b3.cell 0;have a4:w2.cell? ⟨w.heap.size+3,0,none⟩=some (.int .i64 0):=b4.cell 0;have f3:=b3.frozen 0;have f4:=b4.frozen 0;have HR2:=UX (UZ hv (UZ k2 (UZ b3 b4)));clear hv k2 b3 b4);obtain rfl:mv=ts.length:=by rw[hmv,List.length_map]
 obtain⟨hv,k2,b3,b4⟩:=HR2.out;have k3:A4 (fun i=>i=w.heap.size+1+1∨i=w.heap.size+1+1+1) w2 ((w2.setCell ⟨w.heap.size+1+1,0,none⟩ (.int .i64 0)).setCell ⟨w.heap.size+1+1+1,0,none⟩ (.int .i64 0)):=V0 (p:=⟨w.heap.size+1+1+1,0,none⟩) (V0 (p:=⟨w.heap.size+1+1,0,none⟩) (Uz _ w2) (.inl (.inl rfl)) _) (.inl (.inr rfl)) _;have b3':AK ((w2.setCell ⟨w.heap.size+1+1,0,none⟩ (.int .i64 0)).setCell ⟨w.heap.size+1+1+1,0,none⟩ (.int .i64 0)) (w.heap.size+1+1) 3 #[.int .i64 0]:=(b3.set_ 0 (.int .i64 0):AK _ _ _ _).far (p:=⟨w.heap.size+1+1+1,0,none⟩) (by show w.heap.size+1+1≠w.heap.size+1+1+1;omega) _;have b4':AK ((w2.setCell ⟨w.heap.size+1+1,0,none⟩ (.int .i64 0)).setCell ⟨w.heap.size+1+1+1,0,none⟩ (.int .i64 0)) (w.heap.size+1+1+1) 45 #[.int .i64 0]:=(b4.far (p:=⟨w.heap.size+1+1,0,none⟩) (by show w.heap.size+1+1+1≠w.heap.size+1+1;omega) _).set_ 0 (.int .i64 0);have hs2:=k2.size;have hS:=HS.out;have hb1:=(HB.out.1.grew k2).keep k3 (by omega);have hb2:=(HB.out.2.1.grew k2).keep k3 (by omega);have hk13:A4 (fun i=>i=w.heap.size+1+1∨i=w.heap.size+1+1+1) w1 ((w2.setCell ⟨w.heap.size+1+1,0,none⟩ (.int .i64 0)).setCell ⟨w.heap.size+1+1+1,0,none⟩ (.int .i64 0)):=Uw (V2 k2) k3 fun i _ h=>h
 have hg3:A5 w ((w2.setCell ⟨w.heap.size+1+1,0,none⟩ (.int .i64 0)).setCell ⟨w.heap.size+1+1+1,0,none⟩ (.int .i64 0)):=Uw hG0 hk13 fun i hi e=>by omega
 have hrow:Bs ((w2.setCell ⟨w.heap.size+1+1,0,none⟩ (.int .i64 0)).setCell ⟨w.heap.size+1+1+1,0,none⟩ (.int .i64 0)) w2.heap.size 4 (.slice Av ts.length cv) (ts.map Bw.cells):=
  (hv.keep (Q':=C9 0 w1.heap.size w2.heap.size) (fun b hb=>⟨hb.2,fun h=>by have:=hb.1;omega,hb⟩) k3).toB fun b hb=>hb.2
 have hsz3:((w2.setCell ⟨w.heap.size+1+1,0,none⟩ (.int .i64 0)).setCell ⟨w.heap.size+1+1+1,0,none⟩ (.int .i64 0)).heap.size=w2.heap.size:=by simp
 generalize (w2.setCell ⟨w.heap.size+1+1,0,none⟩ (.int .i64 0)).setCell ⟨w.heap.size+1+1+1,0,none⟩ (.int .i64 0)=w3 at*;have HH:=UX (UZ hb1 (UZ hb2 (UZ b3' (UZ b4' (UZ hk13 (UZ hg3 (UZ hrow hsz3)))))));have c4:w3.cell? ⟨w.heap.size+1+1+1,0,none⟩=some (.int .i64 0):=b4'.cell 0;have c1':w3.cell? ⟨w.heap.size,0,none⟩=some (.string s):=hb1.cell 0;clear hb1 hb2 b3' b4' hk13 hg3 hrow hsz3 hmv a3 a4 f3 f4 hv k2 b3 b4 k3 hs2 hS c1 HR2 HTk;go_upto_region 6 with fail;have hbp:=Ux w3 95 #[.slice Av ts.length cv,.int .i64 (s.size:Nat)];have hg4:=(Uv w3).alloc (.cells #[.slice Av ts.length cv,.int .i64 (s.size:Nat)] 95);have HPS:=UX (show Cu (w3.alloc (.cells #[.slice Av ts.length cv,.int .i64 (s.size:Nat)] 95)) w3.heap.size (s.size:Nat) ts from⟨Av,ts.length,cv,hbp,(HH.out.2.2.2.2.2.2.1.keep (B':=w3.heap.size) (by have:=HH.out.2.2.2.2.2.2.2;omega) (by have:=HH.out.2.2.2.2.2.2.2;omega) hg4 (fun _ _ h=>h)),rfl⟩);have HG4:=UX hg4;have hw4s:(w3.alloc (.cells #[.slice Av ts.length cv,.int .i64 (s.size:Nat)] 95)).heap.size=w3.heap.size+1:=by simp
 clear hbp hg4;obtain⟨w4,hw4⟩:∃w4,w3.alloc (.cells #[.slice Av ts.length cv,.int .i64 (s.size:Nat)] 95)=w4:=⟨_,rfl⟩;rw[hw4]at HPS HG4 hw4s ⊢;have HWS:=UX hw4s;have hlow3:K4 w3.heap.size:=by
  have h1:=HLow.out;have h2:=HH.out.2.2.2.2.2.1.size;exact⟨by have:=h1.1;omega,by have:=h1.2.1;omega,by have:=h1.2.2;omega⟩
 have HEx:=UX ((NR w3.heap.size (s.size:Nat) hlow3 (4*ts.length+4) (4*ts.length+4) (Ua _) ts t []).1 HPP.out w4 HPS.out ((HTb.out.keep HLow.out HH.out.2.2.2.2.2.1 (fun _ _ h=>h)).keep hlow3 HG4.out (fun _ _ h=>h)));have hb2:=HH.out.2.1.grew HG4.out;have hz3:=HH.out.2.1.lt;have HZ3:=UX (show w.heap.size+4≤w3.heap.size from by have:=HH.out.2.2.2.1.lt;omega);clear hw4s hw4 c4 c1' hlow3 hz3;go_upto_region 7 with(first|(go_at_call 78;(with_reducible refine HEx.out.mono ?_);rintro e3 w5 ⟨cs,rfl,hr5,hp5,hk5⟩;have h1l:=CF hr5;have h1o:=AQ hr5;have hb25:=hb2.keep hk5 (by have:=HZ3.out;omega);have HR5:=UX (UZ hr5 (UZ hp5 (UZ hk5 (UZ h1l h1o))));clear hr5 hp5 hk5)|(refine sN (.tmp 2) (.tmp 25) cs hb25 rX ?_ (hl:=h1l) (h1:=h1o);intro w6 hb6 k6 d6;have HR6:=UX (UZ hb6 k6);clear k6 d6)|fail);have hz:=HZ3.out;obtain⟨A9,m9,c9,hb9, -,hm9⟩:=HR5.out.2.1;obtain rfl:m9=0:=hm9;have hb96:=hb9.keep HR6.out.2 (by omega);have cg:w6.cell? ⟨w3.heap.size,0,none⟩=some (.slice A9 0 c9):=hb96.cell 0;have hs4:=HG4.out.size;have hs5:=HR5.out.2.2.1.size;have hs6:=HR6.out.2.size;have hs3:=HWS.out;have hr6:AN w6 (C9 0 w4.heap.size w6.heap.size) t cs:=AN.keep (fun b hb=>⟨hb.2,fun h=>by have:=hb.1;omega,hb.1,by have:=hb.2;omega⟩) HR6.out.2 _ _ HR5.out.1;have hl:=HR5.out.2.2.2.1;have ho:=HR5.out.2.2.2.2;have hfit:decide (0≤ET t 1 200)=true:=by
  rw[decide_eq_true_iff,IR];have:=HFt.out;omega
 have HFi:=UX (L9 t (by have:=HFt.out.1;omega) w6 cs (AN.toB (fun b hb=>hb.2) _ _ hr6));rw[hfit]at HFi;have HR66:=UX hr6;have HKK:=UX (show A4 (fun i=>i=w3.heap.size∨i=w.heap.size+1) w3 w6 from Uw (Uw (V2 HG4.out) HR5.out.2.2.1 fun i _ h=> .inl h) HR6.out.2 fun i _ h=> .inr h);clear hb9 hb96 hfit hr6;go_upto_region 11 with(first|(refine lN (.tmp 2) hb6 rX ?_ (hl:=hl))|(go_at_call 29;(with_reducible refine HFi.out.mono ?_);rintro e3 w7 ⟨rfl,k7⟩;have hb7:=hb6.grew k7;have HK7:=UX k7;clear k7 cg)|fail);have hkk7:A4 (fun i=>i=w3.heap.size∨i=w.heap.size+1) w3 w7:=A4.grew HKK.out HK7.out;have b3:=HH.out.2.2.1.keep hkk7 (by omega);have b4:=HH.out.2.2.2.1.keep hkk7 (by omega);have HKK7:=UX hkk7;have HB34:=UX (UZ b3 b4);clear hkk7 b3 b4;go_wp2_with(first|(refine lN (.tmp 2) hb7 rX ?_ (hl:=hl))|((with_reducible refine Cw 29 (.tmp 2) (.tmp 39) rfl ?_);refine P6 29 (.tmp 2) (.tmp 39) (w.heap.size+1) cs cs 29 (by rw[hl];exact Bd) rfl ho rfl rfl rfl rfl hb7 ?_;intro w8 hb8 k8 d8;have b38:=HB34.out.1.keep k8 (by omega);have b48:=HB34.out.2.keep k8 (by omega);have q3:w8.cell? ⟨w.heap.size+1+1,0,none⟩=some (.int .i64 0):=b38.cell 0;have q4:w8.cell? ⟨w.heap.size+1+1+1,0,none⟩=some (.int .i64 0):=b48.cell 0;have f3:=b38.frozen 0;have f4:=b48.frozen 0;have HR8:=UX (UZ hb8 (UZ k8 (UZ b38 b48)));clear hb8 k8 d8 b38 b48)|fail);obtain⟨hb8,k8,b38,b48⟩:=HR8.out;have k9:A4 (fun i=>i=w.heap.size+1+1∨i=w.heap.size+1+1+1) w8 ((w8.setCell ⟨w.heap.size+1+1,0,none⟩ (.int .i64 0)).setCell ⟨w.heap.size+1+1+1,0,none⟩ (.int .i64 0)):=V0 (p:=⟨w.heap.size+1+1+1,0,none⟩) (V0 (p:=⟨w.heap.size+1+1,0,none⟩) (Uz _ w8) (.inl (.inl rfl)) _) (.inl (.inr rfl)) _;have b39:AK ((w8.setCell ⟨w.heap.size+1+1,0,none⟩ (.int .i64 0)).setCell ⟨w.heap.size+1+1+1,0,none⟩ (.int .i64 0)) (w.heap.size+1+1) 3 #[.int .i64 0]:=(b38.set_ 0 (.int .i64 0):AK _ _ _ _).far (p:=⟨w.heap.size+1+1+1,0,none⟩) (by show w.heap.size+1+1≠w.heap.size+1+1+1;omega) _;have b49:AK ((w8.setCell ⟨w.heap.size+1+1,0,none⟩ (.int .i64 0)).setCell ⟨w.heap.size+1+1+1,0,none⟩ (.int .i64 0)) (w.heap.size+1+1+1) 45 #[.int .i64 0]:=(b48.far (p:=⟨w.heap.size+1+1,0,none⟩) (by show w.heap.size+1+1+1≠w.heap.size+1+1;omega) _).set_ 0 (.int .i64 0);have hb9:=hb8.keep k9 (by omega);generalize (w8.setCell ⟨w.heap.size+1+1,0,none⟩ (.int .i64 0)).setCell ⟨w.heap.size+1+1+1,0,none⟩ (.int .i64 0)=w9 at*;have p3:w9.cell? ⟨w.heap.size+1+1,0,none⟩=some (.int .i64 0):=b39.cell 0;have p4:w9.cell? ⟨w.heap.size+1+1+1,0,none⟩=some (.int .i64 0):=b49.cell 0;refine leaves_cons (f:=77) (args:=#[.pointer (some ⟨w.heap.size,0,none⟩),.pointer (some ⟨w.heap.size+1,0,none⟩),.pointer (some ⟨w.heap.size+1+1,0,none⟩),.pointer (some ⟨w.heap.size+1+1+1,0,none⟩)]) (by simp) (by simp[go_sem]) ?_;refine(J8 _ _ _ _ _).mono ?_;rintro e u' w10 ⟨rfl,rfl,rfl⟩;have hld:=run_loadVar_mid (P:=Tryz.prog) w10 (w.heap.size+1) 0 29 cs _ (hb9.rangeN 0 cs (by simp)) Tryz.underlying29 rfl (by rw[hl];exact Bd);have hl3:(loadVar 3 ⟨w.heap.size+1+1,0,none⟩).run Tryz.prog w10= .ok (.int .i64 0) w10:=by simp[go_sem,p3]
 have hl4:(loadVar 45 ⟨w.heap.size+1+1+1,0,none⟩).run Tryz.prog w10= .ok (.int .i64 0) w10:=by simp[go_sem,p4]
 simp only[Leaves,settle];refine⟨_,J5 rfl rfl rfl rfl hld hl3 hl4,?_⟩;have hs8:=k8.size;have hs9:=k9.size;have hs67:=HK7.out.size;have hr7:AN w7 (C9 0 w4.heap.size w7.heap.size) t cs:=AN.keep (S:=fun _=>False) (fun b hb=>⟨hb.2,fun h=>h,hb.1,by have:=hb.2;omega⟩) HK7.out _ _ HR66.out;have hk79:A4 (fun i=>i=w.heap.size+1∨i=w.heap.size+1+1∨i=w.heap.size+1+1+1) w7 w10:=Uw (A4.mono k8 fun i _ h=> .inl h) k9 fun i _ h=> .inr h
 exact⟨cs,rfl,AN.keep (fun b hb=>⟨hb.2,fun h=>by have:=hb.1;omega,.inr (by have:=hb.1;omega),by have:=hb.2;omega⟩) hk79 _ _ hr7,Uw (Uw HH.out.2.2.2.2.2.1 HKK7.out fun i hi e=>by omega) hk79 fun i hi e=>by omega⟩
structure Ir (s u:ByteArray) (t:Ex):Prop where
 size:s.size≤2000
 parse:KI s=some t
 small:AD t≤200∧Ae t≤12
 node:Aw B1 t
 sok:Ej t
 valid:CA t=0
 node2:Aw B1 (Ad t)
 prn:Aw Qo (Ad t)
 valid2:CA (Ad t)=0
 len:0<(EH (Ad t)).length∧(EH (Ad t)).length≤2000
 text:bl u=EH (Ad t)
theorem E6 {s u:ByteArray} {t:Ex} (H:Ir s u t) (w:World) (ht:Ct w):
  Calls Tryz.prog 22 #[.string s,.string u] w fun e' w'=>e'= .returned (.bool true)∧A5 w w':=by
 have hn:AD t≤1000000:=Ue H.small.1 (by decide);have hn2:AD (Ad t)≤1000000:=Ue (F3 (AD t) t (Ua _) H.sok).2 hn;have HP:=UX (OY s t H.size H.parse H.small w ht);have HR:=UX (fun w' cs (g:A5 w w') (h:BC w' w'.heap.size t cs)=>Qn t hn H.node H.sok H.valid H.node2 w' cs (ht.1.grew g) (ht.2.2.keep g (fun h=>h)) h);have HW:=UX (fun w' cs (g:A5 w w') (h:BC w' w'.heap.size (Ad t) cs)=>Jt (Ad t) hn2 H.node2 H.prn H.valid2 H.len (by rw[←H.text];exact Ls _) w' cs (ht.1.grew g) (ht.2.2.keep g (fun h=>h)) h);have HU:=UX H.text;clear H ht hn hn2;go_enter Tryz.func22,Tryz.ntmps22;go_upto_region 2 with(first|(go_at_call 44;(with_reducible refine HP.out.mono ?_);rintro e3 wa ⟨cs,rfl,hc,ka⟩;have hl:=hc.len;have ho:=AQ hc;have HC:=UX hc;clear hc)|(refine sN (.tmp 5) (.tmp 13) cs (Ux wa 29 _) rX ?_ (hl:=hl) (h1:=ho) (us:=(AE 0 0));intro wb hb5 k5 d5;have g5:A5 wa wb:=Uw ((Uv wa).alloc _) k5 (fun i hi e=>by omega))|fail);have hsz:=g5.size;have HRw:=UX (HR.out wb cs (ka.trans g5) (AN.toB (Q:=C9 0 w.heap.size wa.heap.size) (fun b hb=>Ub hb.2 hsz) t cs (HC.out.grewQ (fun b hb=>hb.2) g5)));have HGb:=UX (ka.trans g5);clear ka g5 k5 d5 hsz ho;go_upto_region 3 with(first|(refine lN (.tmp 5) hb5 rX ?_ (hl:=hl))|(go_at_call 46;(with_reducible refine HRw.out.mono ?_);rintro e4 wc ⟨cs2,rfl,hc2,kc⟩;have HC2:=UX (HW.out wc cs2 (HGb.out.trans kc) (AN.toB (fun b hb=>hb.2) _ _ hc2));have HGc:=UX (HGb.out.trans kc);clear hc2 kc)|(go_at_call 45;(with_reducible refine HC2.out.mono ?_);rintro e5 wd ⟨v,rfl,hv,kd⟩;obtain rfl:v=u:=Q3 (hv.trans HU.out.symm);have HGd:=UX (HGc.out.trans kd);clear hv kd)|fail);refine AG [(.int .i64 0),.bool true,.bool true,(.int .i64 0),.bool true,.bool true,.bool true,.string v,.string v,.bool true,.bool true,.bool true] ?_ fun w9 hg9=>?_
 ·simp only[nz];exact hP (hP (hP (hP (hP (hP (hP (hP (hP (hP (hP (hP AF)))))))))))
 simp only[nz];go_wp2_with fail;go_ret;exact⟨rfl,HGd.out.trans hg9⟩
def nmA:ByteArray:=⟨#[97]⟩
def T8:ByteArray:=⟨#[98]⟩
theorem S8:Fz nmA:=⟨fun i h=>by
 have:i=0:=by have:nmA.size=1:=rfl;omega
 subst this;exact(show UInt8.toNat 97<128 by decide),by decide⟩
theorem SS:Fz T8:=⟨fun i h=>by
 have:i=0:=by have:T8.size=1:=rfl;omega
 subst this;exact(show UInt8.toNat 98<128 by decide),by decide⟩
theorem H9 {f wd:Nat} {nm:ByteArray} (hf:f<1000) (hw:wd<1000) (h:Fz nm):Aw B1 (E5 f wd nm):=by
 refine Aa.2 ⟨⟨?_,h,(fun m hm=>nomatch hm),(fun m hm=>nomatch hm),Nat.zero_le _,Nat.zero_le _⟩,fun k hk=>nomatch hk⟩;show Ah 1∧Ah f∧Ah wd∧Ah 0∧Ah 0∧Ah 0∧Ah 0;unfold Ah;omega
theorem NK {x y:Int} (hx:Ah x) (hy:Ah y):Aw B1 (Ay x y):=by
 have z0:Ah 0:=Bt.1;exact Aa.2 ⟨⟨⟨z0,z0,z0,z0,z0,hx,hy⟩,FW x y⟩,fun k hk=>nomatch hk⟩
theorem EE {f:Int} {a b:Ex} (hf:0≤f∧f≤3) (ha:Aw B1 a) (hb:Aw B1 b):Aw B1 (Af f a b):=by
 refine Aa.2 ⟨⟨?_,?_⟩,fun k hk=>?_⟩
 ·show Ah 3∧Ah f∧Ah 0∧Ah 0∧Ah 0∧Ah 0∧Ah 0;unfold Ah;omega
 ·exact⟨(FW 0 0).1,(fun m hm=>nomatch hm),(fun m hm=>nomatch hm),Nat.zero_le _,Nat.zero_le _⟩
 rcases List.mem_cons.1 hk with rfl|hk
 ·exact ha
 obtain rfl:=Ug.1 hk;exact hb
theorem K1 {f wd:Nat} {nm:ByteArray} (hf:f<1000) (hw:wd<1000) (hn:Mz nm):Ej (E5 f wd nm):=by
 refine Aa.2 ⟨⟨⟨(H9 hf hw hn.2.1.2.1).top.1,fun h=>nomatch h⟩,.inr (.inl ⟨rfl,rfl,hn⟩),Nat.zero_le _,Nat.zero_le _⟩,fun k hk=>nomatch hk⟩
theorem Ee {f:Int} {a b:Ex} (hf:0≤f∧f≤3) (ha:Ej a) (hb:Ej b):Ej (Af f a b):=by
 refine Aa.2 ⟨⟨⟨?_,fun _=>⟨rfl,hf⟩⟩,.inr (.inr ⟨rfl,a,b,rfl⟩),Nat.zero_le _,Nat.zero_le _⟩,fun k hk=>?_⟩
 ·show Ah 3∧Ah f∧Ah 0∧Ah 0∧Ah 0∧Ah 0∧Ah 0;unfold Ah;omega
 rcases List.mem_cons.1 hk with rfl|hk
 ·exact ha
 obtain rfl:=Ug.1 hk;exact hb
theorem Iu {wd:Nat} {nm:ByteArray} (hn:nm.size≤1000):Aw Qo (E5 0 wd nm):=Aa.2 ⟨.inr (.inl ⟨rfl,rfl,rfl,rfl,hn⟩),fun k hk=>nomatch hk⟩
theorem Pu {n:Nat} (hn:n<10):Aw Qo (Ay n 1):=Aa.2 ⟨.inl ⟨rfl,rfl,n,hn,rfl⟩,fun k hk=>nomatch hk⟩
theorem ME {f:Nat} {a b:Ex} (hf:f<4) (ha:Aw Qo a) (hb:Aw Qo b):Aw Qo (Af f a b):=by
 refine Aa.2 ⟨.inr (.inr ⟨rfl,⟨f,hf,rfl⟩,a,b,rfl⟩),fun k hk=>?_⟩;rcases List.mem_cons.1 hk with rfl|hk
 ·exact ha
 obtain rfl:=Ug.1 hk;exact hb
theorem Sp:Mz nmA:=⟨by kernel_rfl,(H9 (f:=0) (wd:=0) (by decide) (by decide) S8).top,by decide,by decide⟩
theorem TR:Mz T8:=⟨by kernel_rfl,(H9 (f:=0) (wd:=0) (by decide) (by decide) SS).top,by decide,by decide⟩
def eA:Ex:=E5 0 0 nmA
def eB:Ex:=E5 0 0 T8
def eM:Ex:=E5 4 3 nmA
theorem Rh:Aw B1 eA:=H9 (by decide) (by decide) S8
theorem Qx:Aw B1 eB:=H9 (by decide) (by decide) SS
theorem Ti:Aw B1 eM:=H9 (by decide) (by decide) S8
theorem R8:Ej eA:=K1 (by decide) (by decide) Sp
theorem T2:Ej eB:=K1 (by decide) (by decide) TR
theorem Sl:Ej eM:=K1 (by decide) (by decide) Sp
theorem f0:(0:Int)≤0∧(0:Int)≤3:=by decide
theorem f1:(0:Int)≤1∧(1:Int)≤3:=by decide
theorem f2:(0:Int)≤2∧(2:Int)≤3:=by decide
theorem OS {n:Nat} (h:n<100):Ah n:=by unfold Ah;omega
abbrev Tr:ByteArray:=⟨#[40,97,43,97,46,109,101,97,110,40,51,41,41,45,97,46,109,101,97,110,40,51,41]⟩
abbrev UD:ByteArray:=⟨#[40,97,43,98,41,45,98]⟩
abbrev UC:ByteArray:=⟨#[97,45,97]⟩
abbrev Tn:ByteArray:=⟨#[49,43,50,42,51]⟩
abbrev Tp:ByteArray:=⟨#[97]⟩
abbrev U7:ByteArray:=⟨#[97,43,98,45,98]⟩
abbrev U5:ByteArray:=⟨#[97,42,48]⟩
abbrev U1:ByteArray:=⟨#[55]⟩
theorem LS:Ad (Af 1 (Af 0 eA eM) eM)=eA:=by kernel_rfl
theorem L1:Ad (Af 1 (Af 0 eA eB) eB)=Af 1 (Af 0 eA eB) eB:=by kernel_rfl
theorem Ko:Ad (Af 1 eA eA)=Af 2 eA (Ay 0 1):=by kernel_rfl
theorem Lq:Ad (Af 0 (Ay 1 1) (Af 2 (Ay 2 1) (Ay 3 1)))=Ay 7 1:=by kernel_rfl
theorem T3:Ir Tr Tp (Af 1 (Af 0 eA eM) eM) where
 size:=by decide
 parse:=by kernel_rfl
 small:=by decide
 node:=EE f1 (EE f0 Rh Ti) Ti
 sok:=Ee f1 (Ee f0 R8 Sl) Sl
 valid:=by kernel_rfl
 node2:=by rw[LS];exact Rh
 prn:=by rw[LS];exact Iu (by decide)
 valid2:=by rw[LS];kernel_rfl
 len:=by rw[LS];decide
 text:=by rw[LS];kernel_rfl
theorem Sx:Ir UD U7 (Af 1 (Af 0 eA eB) eB) where
 size:=by decide
 parse:=by kernel_rfl
 small:=by decide
 node:=EE f1 (EE f0 Rh Qx) Qx
 sok:=Ee f1 (Ee f0 R8 T2) T2
 valid:=by kernel_rfl
 node2:=by rw[L1];exact EE f1 (EE f0 Rh Qx) Qx
 prn:=by rw[L1];exact ME (f:=1) (by decide) (ME (f:=0) (by decide) (Iu (by decide)) (Iu (by decide))) (Iu (by decide))
 valid2:=by rw[L1];kernel_rfl
 len:=by rw[L1];decide
 text:=by rw[L1];kernel_rfl
theorem Sr:Ir UC U5 (Af 1 eA eA) where
 size:=by decide
 parse:=by kernel_rfl
 small:=by decide
 node:=EE f1 Rh Rh
 sok:=Ee f1 R8 R8
 valid:=by kernel_rfl
 node2:=by rw[Ko];exact EE f2 Rh (NK (OS (n:=0) (by decide)) (OS (n:=1) (by decide)))
 prn:=by rw[Ko];exact ME (f:=2) (by decide) (Iu (by decide)) (Pu (n:=0) (by decide))
 valid2:=by rw[Ko];kernel_rfl
 len:=by rw[Ko];decide
 text:=by rw[Ko];kernel_rfl
theorem nn (n:Nat) (h:n<100):Aw B1 (Ay n 1):=NK (OS h) (OS (n:=1) (by decide))
theorem sn (n:Nat) (h:n<100):Ej (Ay n 1):=Hz (OS h) (OS (n:=1) (by decide))
theorem Sb:Ir Tn U1 (Af 0 (Ay 1 1) (Af 2 (Ay 2 1) (Ay 3 1))) where
 size:=by decide
 parse:=by kernel_rfl
 small:=by decide
 node:=EE f0 (nn 1 (by decide)) (EE f2 (nn 2 (by decide)) (nn 3 (by decide)))
 sok:=Ee f0 (sn 1 (by decide)) (Ee f2 (sn 2 (by decide)) (sn 3 (by decide)))
 valid:=by kernel_rfl
 node2:=by rw[Lq];exact nn 7 (by decide)
 prn:=by rw[Lq];exact Pu (n:=7) (by decide)
 valid2:=by rw[Lq];kernel_rfl
 len:=by rw[Lq];decide
 text:=by rw[Lq];kernel_rfl
theorem LT (w:World) (ht:Ct w):Calls Tryz.prog 10 #[] w fun e' w'=>e'= .returned (.bool true)∧A5 w w':=by
 have H1:=UX (fun w' (g:A5 w w')=>E6 T3 w' ⟨ht.1.grew g,ht.2.1.keep g (fun h=>h),ht.2.2.keep g (fun h=>h)⟩);have H2:=UX (fun w' (g:A5 w w')=>E6 Sx w' ⟨ht.1.grew g,ht.2.1.keep g (fun h=>h),ht.2.2.keep g (fun h=>h)⟩);have H3:=UX (fun w' (g:A5 w w')=>E6 Sr w' ⟨ht.1.grew g,ht.2.1.keep g (fun h=>h),ht.2.2.keep g (fun h=>h)⟩);have H4:=UX (fun w' (g:A5 w w')=>E6 Sb w' ⟨ht.1.grew g,ht.2.1.keep g (fun h=>h),ht.2.2.keep g (fun h=>h)⟩);clear ht;go_enter Tryz.func10,Tryz.ntmps10;go_upto_region 1 with fail;refine AG [.bool true,.bool true,.bool true,.bool true,.bool true,.bool true,.bool true,.bool true,.bool true,.bool true,.bool true] ?_ fun w9 hg9=>?_
 ·simp only[nz];exact hK (fun w' hg=>(H1.out _ hg:Calls _ _ _ _ _)) (hP (hK (fun w' hg=>(H2.out _ hg:Calls _ _ _ _ _)) (hP (hP (hK (fun w' hg=>(H3.out _ hg:Calls _ _ _ _ _)) (hP (hP (hK (fun w' hg=>(H4.out _ hg:Calls _ _ _ _ _)) (hP (hP AF))))))))))
 simp only[nz];go_wp2_with fail;go_ret;exact⟨rfl,hg9⟩
end Go.Proofs.YtkclnhpofkaclaaGreatDoor
namespace Go.Proofs.YtkclnhpofkaclaaGreatDoor
open Go.RowKit
section
variable {P:Program} {md:Region.Mode} {ops:Array Oper} {Q:Exit→Act→World→Prop} {Gs:List (Nat×(World→Prop))}
theorem Df (mid:List Nat) (s:Nat) (A:World→Prop) {i:Nat} {oi:Oper} {fuel:Nat} {listed:Array Bool} {a:Act} {w:World} (hi:ops[i]? =some oi)
  (hs:Region.noSelect ops=true) (hf:Region.free md ops listed i=true) (hr:(Region.ready md ops listed).contains i=true) (hcl:AW md ops listed) (hK:Au Gs listed w) (hne':(Gs.map (·.1)).contains i=false)
  (k:Nat) (hm':Gs[k]? =some (s,A)) (hw:JO md ops (s::(mid++[i]))=true) (ty:TypeId) (x:Operand) (ho:oi.op= .load ty x) (b o:Nat) (hx:a.eval x= .pointer (some ⟨b,o,none⟩)) (cs:List Value) (d:TypeDesc) (hS:∀w,A w→w.rangeAt b o cs)
  (hu:P.underlying ty=some d) (hd:d.isRow=true) (hin:(P.info? ty).map (·.size)=some cs.length)
  (hQ:∀c a w,Q (.panic c) (a.put oi.dst (.agg cs.toArray)) w→Q (.panic c) a w) (hgd:Region.wanted oi (yielded ops a.tmps)=true)
  (h:AW md ops (listed.setIfInBounds i true)→Au Gs (listed.setIfInBounds i true) w→Az P md ops Q Gs fuel (listed.setIfInBounds i true) (a.put oi.dst (.agg cs.toArray)) w):Az P md ops Q Gs (fuel+1) listed a w:=by
 have hr':i∈Region.ready md ops listed:=by simpa using hr
 have hne:=EO hne';refine Da hi (Region.noSelect_spec hs) hQ hne fuel listed a w hcl (Region.free_spec hi hf) hr' (.inl ⟨hgd,fun w' ⟨l,h1,h2,h3⟩=>?_⟩) hK (h (hcl.set hr') ((Au.set hne).2 hK));have hA:=h3 _ (Uk hm') (h1.path (getD_both h2) mid s hw);unfold execOp;simp only[ho,hx,Instr.loadAt,Instr.sureAddr,Sem.run_bind,Sem.run_pure,Result.andThen_ok,run_loadVar_mid w' b o ty cs d (hS w' hA) hu hd hin]
theorem BG {i:Nat} {oi:Oper} {fuel:Nat} {listed:Array Bool} {a:Act} {w:World} (hcl:AW md ops listed) (hr:Region.ready md ops listed=[i]) (hi:ops[i]? =some oi) (hgd:Region.wanted oi (yielded ops a.tmps)=true)
  (h:∀K:Act→World→Prop,(∀a' w',Au Gs (listed.setIfInBounds i true) w'→(AW md ops (listed.setIfInBounds i true)→Au Gs (listed.setIfInBounds i true) w'→Az P md ops Q Gs fuel (listed.setIfInBounds i true) a' w')→K a' w')→oi.wp P a w K Q):Az P md ops Q Gs (fuel+1) listed a w:=by
 refine⟨(fun h0=>by rw[hr]at h0;cases h0),fun j hj=>?_⟩;have hj':=hj;rw[hr]at hj;have:j=i:=by simpa using hj
 subst this;unfold wpOp;simp only[hi,hgd,if_true];exact .inl (h _ fun a' w' h1 h2=>⟨h1,h2 (hcl.set hj') h1⟩)
end
end Go.Proofs.YtkclnhpofkaclaaGreatDoor
