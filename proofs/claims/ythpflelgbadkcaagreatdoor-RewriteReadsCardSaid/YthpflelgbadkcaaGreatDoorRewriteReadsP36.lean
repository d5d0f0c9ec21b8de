/- What the card of the law stands on: LexD, ParG, Becm. -/
import Derived.Test.YthpflelgbadkcaaGreatDoorRewriteReadsP01
import Derived.Test.YthpflelgbadkcaaGreatDoorRewriteReadsP35
import Derived.Test.YthpflelgbadkcaaGreatDoorRewriteReadsP06
import Derived.Test.YthpflelgbadkcaaGreatDoorRewriteReadsP34
import Derived.Test.YthpflelgbadkcaaGreatDoorRewriteReadsP10
import Derived.Defers
import Derived.Recover
import Derived.RegionTactic
import Derived.BigRegion
import Derived.Test.YthpflelgbadkcaaGreatDoorRewriteReadsP33
set_option maxRecDepth 100000
set_option maxHeartbeats 12800000
set_option linter.unusedVariables false
set_option linter.unusedSimpArgs false
namespace Go.Proofs.YthpflelgbadkcaaGreatDoor
open Go.RowKit Go.Shelf Pl
attribute [local go_sem] Oper.semAt_some
theorem Rf:P7 Tryz.prog 143 184 4 40 (.agg #[.int .i64 0,.string ⟨#[]⟩,.int .i64 0,.int .i64 0]):=⟨Tryz.underlying143,by kernel_rfl,rfl,by decide,by decide⟩
theorem A5.others {W W':World} (h:A5 W W'):KeepsOthers W W':=⟨h.size,fun k o hk _=>(h.block k (SO.1 hk).1 (fun h=>h)).trans hk⟩
def OU (ts:List C3) (w:World) (e:Ending) (w':World):Prop:=∃v,e= .returned (.tuple #[v,.int .i64 0,.int .i64 0])∧C0 w' (CW 0 w.heap.size w'.heap.size) 4 v (ts.map C3.cells)∧A5 w w'
theorem Er.abides {w0:World} {bt M:Nat} (hb:bt<M) (h0:w0.heap.size≤M):OwnFrom M (Er w0 bt M):=by
 intro pre A B row h hg hr;obtain⟨v,hb1,hm,hgr⟩:=h;have hk:AC (fun i=>row=some i) A B:=⟨hg.os,hg.tape,hg.output,hg.size,fun i hi hn=>hg.block i hi fun e=>hn e.symm⟩;refine⟨v,hb1.keep hk (fun e=>by have:=(hr _ e).1;omega),hm.keep hk (fun i hi e=>?_),Sb hgr hk fun i hi e=>by have:=(hr _ e).1;omega⟩;obtain⟨o,ho,hc⟩:=(hr _ e).2;rcases hm.form with⟨rfl, -⟩|⟨g,cap,cur,rfl, -,hbox, -⟩
 ·cases hi
 obtain rfl:g=i:=by simpa[Value.ownBlock]using hi
 unfold Ag at hbox;rw[hbox]at ho;obtain rfl:=SI ho;cases hc
theorem NJ {s:ByteArray}:∀{i:Nat} {ts:List C3},Da s i ts→ts.length+i≤max s.size i:=by
 intro i ts h
 induction h with
 |stop h=>simp;omega
 |blank h1 _ _ ih=>omega
 |@tok i j t ts h1 hb ht _ ih=>
  have hj:i<j:=by
   by_cases hl:Ff (F0 s i)=true
   ·obtain⟨-, -,rfl⟩:=Fu ht hl;exact Hw h1 (by unfold Cc;rw[hl];rfl)
   by_cases hd:C4 (F0 s i)=true
   ·obtain⟨-, -,rfl⟩:=Ef ht (by simpa using hl) hd;exact Hw h1 hd
   obtain⟨-,h2, -,rfl⟩:=Ev ht (by simpa using hl) (by simpa using hd);have:=(FN h1 h2).2;omega
  have hj2:j≤s.size:=by
   by_cases hl:Ff (F0 s i)=true
   ·obtain⟨-, -,rfl⟩:=Fu ht hl;exact(E4 _ _ (by omega)).2
   by_cases hd:C4 (F0 s i)=true
   ·obtain⟨-, -,rfl⟩:=Ef ht (by simpa using hl) hd;exact(E4 _ _ (by omega)).2
   obtain⟨-,h2, -,rfl⟩:=Ev ht (by simpa using hl) (by simpa using hd);have:=(FN h1 h2).1;omega
  simp only[List.length_cons];omega
theorem Lt (s:ByteArray) (ts:List C3) (hs:s.size≤2000) (hlx:Da s 0 ts) (w:World):Calls Tryz.prog 96 #[.string s] w (OU ts w):=by
 have hlen:ts.length≤2000:=by have:=NJ hlx;omega
 have t0:decide ((s.size:Int)>2000)=false:=by simp;omega
 refine(callsIn_wide (n:=5)).1 ?_;refine callsIn_of_wp_marks Tryz.func96 rfl trivial ?_ rfl;simp only[Tryz.ntmps96,List.size_toArray,List.length_cons,List.length_nil,Nat.reduceAdd,Nat.reduceSub,Array.replicate_succ,Array.replicate_zero,List.push_toArray,List.append_toArray,List.nil_append,List.cons_append];have HLX:=S9 hlx;have HLN:=S9 hlen;have HSZ:=S9 hs;clear hlx hlen hs
 gi_wp2
 have hq0:Dn ((w.alloc (.cells #[.string s,.int .i64 0,.int .i64 0] 181)).alloc (.cells #[.slice none 0 0] 143)) w.heap.size s 0 0:=(Sc w 181 #[.string s,.int .i64 0,.int .i64 0]).alloc _;have hb0:=Sc (w.alloc (.cells #[.string s,.int .i64 0,.int .i64 0] 181)) 143 #[.slice none 0 0];have hg0:A5 w ((w.alloc (.cells #[.string s,.int .i64 0,.int .i64 0] 181)).alloc (.cells #[.slice none 0 0] 143)):=((Sa w).alloc _).alloc _;have hs0:((w.alloc (.cells #[.string s,.int .i64 0,.int .i64 0] 181)).alloc (.cells #[.slice none 0 0] 143)).heap.size=w.heap.size+2:=by simp
 rw[World.size_alloc]at hb0;generalize (w.alloc (.cells #[.string s,.int .i64 0,.int .i64 0] 181)).alloc (.cells #[.slice none 0 0] 143)=W0 at*;have hi0:Er w (w.heap.size+1) W0.heap.size [] W0:=⟨_,hb0,⟨World.ownsRow_nil _ _ _ _,by intro r hr;cases hr⟩,hg0⟩;refine Gx (F:=Fence.wide) (n:=5) (α:=C3) rfl (by omega) (gf:=124) (fs:=#[.pointer (some ⟨w.heap.size,0,none⟩)]) (lb:=#[]) rfl trivial (enters_of Tryz.func124 (by kernel_rfl) rfl) (encs:=fun x=>#[.agg x.cells.toArray]) (fun _=>rfl) (fun pre x=>∃us,pre++x::us=ts)
  (Er w (w.heap.size+1) W0.heap.size) (Er.abides (by omega) (by omega)) hi0
  (fun x z=>{ tmps:=#[.string s,undef,.slice none 0 0,.int .i64 0,.int .i64 0,.pointer (some ⟨w.heap.size,0,none⟩),.pointer (some ⟨w.heap.size+1,0,none⟩),.pointer (some ⟨z,0,none⟩),.string s,.int .i64 (s.size:Nat),.bool false,.string s,.agg #[.string s,.int .i64 0,.int .i64 0],.pointer (some ⟨w.heap.size,0,none⟩),.pointer (some ⟨w.heap.size,0,none⟩),.func (.func 124) #[.pointer (some ⟨w.heap.size,0,none⟩)] #[],.agg x.cells.toArray,undef,undef,undef,undef,undef,undef,undef,undef,undef,undef,undef,undef,undef,undef,undef,undef,undef,undef],defers:=[] }) 184 (fun x=>x.cells.toArray)
  (MN (w.heap.size+1)) ?hS (fun xs W=>xs=ts∧Er w (w.heap.size+1) W0.heap.size xs W∧Dn W w.heap.size s s.size 0) ?hR ?hseq ?assign ?body ?hSz ?done
 case hS=>
  intro W W' i hb hs;rcases hs with hs|⟨v,hv,ho⟩
  ·exact .inl hs
  exact .inr ⟨v,(World.cell?_of_block (a:=⟨w.heap.size+1,0,none⟩) (hb (w.heap.size+1) (by omega))).symm.trans hv,ho⟩
 case hR=>
  intro xs A B row h hg hr;have hk:AC (fun i=>row=some i) A B:=⟨hg.os,hg.tape,hg.output,hg.size,fun i hi hn=>hg.block i hi fun e=>hn e.symm⟩;exact⟨h.1,Er.abides (by omega) (by omega) xs A B row h.2.1 hg hr,Ag.keep h.2.2 hk fun e=>by have:=(hr _ e).1;omega⟩
 case hseq=>
  intro l oL oD W hl hoL hoD hI hG hY;refine(QJ l w.heap.size (w.heap.size+1) W0.heap.size w oL oD W0.heap.size s (by have:=HSZ.out;omega) ⟨SD _,by omega,by omega,SD _,hl⟩ ts HLX.out hY W (hq0.grew hG) hI hoL hoD).mono ?_;rintro e W' ⟨he,xs,h1,h2,h3⟩;exact⟨he,xs,h1,h2,h3⟩
 case hSz=>
  intro pre W z hI hs;have h1:=hI.choose_spec.1.lt;rcases I4 hI rfl hs with h|h
  ·omega
  exact h.2
 case assign=>
  intro l x W K hK
  gi_wp2_with ((with_reducible refine FQ 184 (.tmp 7) (.tmp 16) rfl ?_);refine KH 184 (.tmp 7) (.tmp 16) W.heap.size x.cells [.int .i64 0,.string ⟨#[]⟩,.int .i64 0,.int .i64 0] 184 Dk rfl (Cg _ _ _ _) rfl rfl rfl rfl (Sc W 184 _) ?_;intro w8 hb8 k8 d8)
  have hG:A5 W w8:=Sb ((Sa W).alloc _) k8 (fun i hi e=>by omega);exact hK w8 hG hG.others hb8
 case body=>
  rintro l pre x z W ⟨us,hus⟩ hI hbz hWl hlz hnz;obtain⟨v,hb,hm,hg⟩:=hI;have hpl:(pre.map C3.cells).length<1099511627:=by
   have h1:=HLN.out;rw[←hus]at h1;simp at h1 ⊢;omega
  clear hus;obtain⟨tk,tt,tn,tf⟩:=x;have c0:W.cell? ⟨w.heap.size+1,0,none⟩=some v:=hb.cell 0;have f0:W.frozen? ⟨w.heap.size+1,0,none⟩=false:=hb.frozen 0;have z0:W.cell? ⟨z,0,none⟩=some (.int .i64 (tk:Nat)):=hbz.cell 0;have z1:W.cell? ⟨z,1,none⟩=some (.string tt):=hbz.cell 1;have z2:W.cell? ⟨z,2,none⟩=some (.int .i64 (tn:Nat)):=hbz.cell 2;have z3:W.cell? ⟨z,3,none⟩=some (.int .i64 (tf:Nat)):=hbz.cell 3;have HB:=S9 (SC hb (SC hm hg));have hbs:W0.heap.size≤W.heap.size:=by have:=hbz.lt;omega
  clear hb hm hg hbz
  gi_wp2_with (gi_at_builtin;refine LU Rf rfl (.tmp 17) (.tmp 19) rfl rfl (HB.out.2.1.keep ((Se (fun _=>False) W).alloc _) (fun _ _ h=>h)) W.heap.size 1 (C3.cells ⟨tk,tt,tn,tf⟩) 184 rfl (SD _) (Sc W 184 _) rfl (Cg _ _ _ _) hpl (by simp;omega) ?_;intro r n' cap w1 hM1 hk1;have hgw:A5 W (W.alloc (.cells (C3.cells ⟨tk,tt,tn,tf⟩).toArray 184)):=(Sa W).alloc _;have hbx:=(HB.out.1.grew hgw).keep hk1 (fun e=>by have:=(HB.out.2.1.lt _ e).1;omega);have cx:w1.cell? ⟨w.heap.size+1,0,none⟩=some v:=hbx.cell 0;have fx:=hbx.frozen 0;have HX:=S9 (SC hM1 (SC hk1 (SC hgw hbx)));clear hM1 hk1 hgw hbx)
  obtain⟨hM1,hk1,hgw,hbx⟩:=HX.out;have hb9:Ag (w1.setCell ⟨w.heap.size+1,0,none⟩ (.slice (some ⟨r,0,none⟩) n' cap)) (w.heap.size+1) 143 #[.slice (some ⟨r,0,none⟩) n' cap]:=hbx.set_ 0 _;have hks:AC (fun b=>b=w.heap.size+1) w1 (w1.setCell ⟨w.heap.size+1,0,none⟩ (.slice (some ⟨r,0,none⟩) n' cap)):=Sf (S:=fun b=>b=w.heap.size+1) (p:=⟨w.heap.size+1,0,none⟩) (Se _ w1) (.inl rfl) _;have hk9:AC (MN (w.heap.size+1) W) W (w1.setCell ⟨w.heap.size+1,0,none⟩ (.slice (some ⟨r,0,none⟩) n' cap)):=Sb (Sb hgw.keeps hk1 (fun i hi e=> .inr ⟨v,c0,e⟩)) hks (fun i hi e=> .inl e);refine⟨⟨hk9.size,fun k o hk ho=>?_⟩,hk9,?_⟩
  ·refine(hk9.block k (SO.1 hk).1 fun hS=>?_).trans hk;rcases hS with rfl|⟨v',hv',ho'⟩
   ·have:=HB.out.1;unfold Ag at this;rw[this]at hk;obtain rfl:=SI hk;cases ho
   rw[c0]at hv';obtain rfl:=SI hv';rcases HB.out.2.1.form with⟨rfl, -⟩|⟨g,cap',cur,rfl, -,hbox, -⟩
   ·cases ho'
   obtain rfl:g=k:=by simpa[Value.ownBlock]using ho'
   unfold Ag at hbox;rw[hbox]at hk;obtain rfl:=SI hk;cases ho
  refine⟨_,hb9,?_,Sb HB.out.2.2 hk9 fun i hi hS=>?_⟩
  ·rw[List.map_append,←hs0];exact hM1.keep hks (fun i hi e=>by have:=(hM1.lt i hi).1;omega)
  rcases hS with h|⟨v',hv',ho'⟩
  ·omega
  rw[c0]at hv';obtain rfl:=SI hv';have:=(HB.out.2.1.lt i ho').1;omega
 case done=>
  rintro xs W ⟨rfl,hti,hq⟩ hK;obtain⟨v,hb,hm,hg⟩:=hti;have c0:W.cell? ⟨w.heap.size+1,0,none⟩=some v:=hb.cell 0;have c2:W.cell? ⟨w.heap.size,2,none⟩=some (.int .i64 0):=hq.cell 2;have HB:=S9 (SC hb (SC hm hg));clear hb hm hg hq
  gi_wp2
  refine⟨by simp,.inl ⟨_,_,rfl,run_takeDeferred hK,?_⟩⟩;obtain⟨v',hb',hm',hg'⟩:=OwnFrom.putObj (I:=Er w (w.heap.size+1) W0.heap.size) (Er.abides (by omega) (by omega)) (.deferred none) ⟨v,HB.out.1,HB.out.2.1,HB.out.2.2⟩ (SD _) hK rfl;have hv':v'=v:=by
   have h1:=hb'.cell 0;rw[World.cell?_of_block (a:=⟨w.heap.size+1,0,none⟩) (World.putObj_heap_other (by show w.heap.size+1≠W0.heap.size;omega)),c0]at h1;exact(SI h1).symm
  subst hv';exact⟨.tuple #[v',.int .i64 0,.int .i64 0],by simp[results,Tryz.func96],v',rfl,hm'.own.keep (S:=fun _=>False) (fun b hb=>⟨(hm'.lt b hb).2,fun h=>h,.inr (by have:=(hm'.lt b hb).1;omega),(hm'.lt b hb).2⟩) (Sa _),hg'⟩
end Go.Proofs.YthpflelgbadkcaaGreatDoor
namespace Go.Proofs.YthpflelgbadkcaaGreatDoor
open Go.RowKit Pl
theorem J2 (p1 p2 p3 p4:Value) (w:World):
  CallsD Tryz.prog 97 #[p1,p2,p3,p4] .returning w fun e u' w'=>u'= .returning∧(e= .returned (.tuple #[])∧w'=w):=by
 refine callsD_of_wpS Tryz.func97 rfl fun c₀ cs hu=>?_
 apply wpS_seq;apply wpS_region;simp[wpOpsS,go_sem,recoverD,hu,Tryz.ntmps97,Exit.thenS];apply wpS_seq;apply wpS_region;simp[wpOpsS,go_sem,recoverD,hu,Tryz.ntmps97,Exit.thenS];refine wpS_cond (t:=false) (by simp[Act.eval,Array.replicate]) ?_;simp only[Bool.false_eq_true,if_false];refine wpS_of_wp (wp_skip ?_);cases c₀;simp_all [bodyPostS,results,Tryz.results97]
def NI (t:Ex) (w:World) (e:Ending) (w':World):Prop:=∃cs,e= .returned (.tuple #[.agg cs.toArray,.int .i64 0,.int .i64 0])∧AW w' (CW 0 w.heap.size w'.heap.size) t cs∧A5 w w'
theorem KY {s:ByteArray} {e:Ex} (h:K7 s=some e):∃ts,Da s 0 ts∧CA (4*ts.length+4) 0 ts=some (e,[]):=by
 unfold K7 at h;split at h
 ·cases h
 ·rename_i ts hl
  split at h
  ·rename_i e' hp
   obtain rfl:=SI h;exact⟨ts,G9 _ _ _ hl,hp⟩
  cases h
theorem J4 {fn:Func} {p q r:Tmp} {ty t1 t2:TypeId} (h:fn.results=#[.cell p ty,.cell q t1,.cell r t2]) {tmps:Array Value} {w:World} {a b c:Addr} {v v1 v2:Value} (hp:tmps.getD p undef= .pointer (some a)) (hq:tmps.getD q undef= .pointer (some b)) (hr:tmps.getD r undef= .pointer (some c)) (hl:(loadVar ty a).run Tryz.prog w= .ok v w) (hl1:(loadVar t1 b).run Tryz.prog w= .ok v1 w) (hl2:(loadVar t2 c).run Tryz.prog w= .ok v2 w):
  (results fn tmps).run Tryz.prog w= .ok (.tuple #[v,v1,v2]) w:=by
 simp only[results,h];rw[Array.getD_eq_getD_getElem?]at hp hq hr
 first|(simp[hp,hq,hr,Result.andThen,hl,hl1,hl2,asAddr];done)|(simp[Sem.run_bind,hp,hq,hr,Result.andThen,hl,hl1,hl2,asAddr];done)|(simp only[Sem.run_bind];simp[hp,hq,hr,Result.andThen,hl,hl1,hl2,asAddr])
theorem C0.slice3 {w:World} {Q:Nat→Prop} {sz:Nat} {v:Value} {rows:List (List Value)} (h:C0 w Q sz v rows):∃A n c,v= .slice A n c∧n=rows.length∧n≤c:=by
 obtain⟨A,c,rfl,hc, -⟩:=h;exact⟨A,_,c,rfl,rfl,hc⟩
theorem Ny (s:ByteArray) (t:Ex) (hs:s.size≤2000) (hp:K7 s=some t) (hf:AL t≤200∧BF t≤12) (w:World) (ht:D0 w):Calls Tryz.prog 66 #[.string s] w (NI t w):=by
 have hmf:∀(fn:Fn) (first cap:Array Value) (w:World),(Instr.makeFunc fn first cap).run Tryz.prog w= .ok (.func fn first cap) w:=fun _ _ _ _=>rfl
 obtain⟨ts,hlx,hpp⟩:=KY hp;have HTk:=S9 (Lt s ts hs hlx);have hb1:=(((Sc w 9 #[.string s]).alloc (.cells (AH 0 0).toArray 29)).alloc (.cells #[.int .i64 0] 3)).alloc (.cells #[.int .i64 0] 34);have hb2:=((Sc (w.alloc (.cells #[.string s] 9)) 29 (AH 0 0).toArray).alloc (.cells #[.int .i64 0] 3)).alloc (.cells #[.int .i64 0] 34);have hb3:=(Sc ((w.alloc (.cells #[.string s] 9)).alloc (.cells (AH 0 0).toArray 29)) 3 #[.int .i64 0]).alloc (.cells #[.int .i64 0] 34);have hb4:=Sc (((w.alloc (.cells #[.string s] 9)).alloc (.cells (AH 0 0).toArray 29)).alloc (.cells #[.int .i64 0] 3)) 34 #[.int .i64 0];simp only[World.size_alloc]at hb1 hb2 hb3 hb4;have hG0:A5 w ((((w.alloc (.cells #[.string s] 9)).alloc (.cells (AH 0 0).toArray 29)).alloc (.cells #[.int .i64 0] 3)).alloc (.cells #[.int .i64 0] 34)):=((((Sa w).alloc _).alloc _).alloc _).alloc _;have hs0:((((w.alloc (.cells #[.string s] 9)).alloc (.cells (AH 0 0).toArray 29)).alloc (.cells #[.int .i64 0] 3)).alloc (.cells #[.int .i64 0] 34)).heap.size=w.heap.size+4:=by simp
 have HPP:=S9 hpp;have HFt:=S9 hf;have HTb:=S9 ht;have hlow:Jr w.heap.size:=⟨ht.1.1,ht.2.2.1,ht.2.1.1,ht.2.2.2.2.1⟩;have HLow:=S9 hlow;clear hs hp hlx hpp hf ht hlow;go_enter_defers Tryz.func66,Tryz.ntmps66;go_upto_region 1 with fail;change Code.wp _ _ _ _ ((((w.alloc (.cells #[.string s] 9)).alloc (.cells (AH 0 0).toArray 29)).alloc (.cells #[.int .i64 0] 3)).alloc (.cells #[.int .i64 0] 34));generalize (((w.alloc (.cells #[.string s] 9)).alloc (.cells (AH 0 0).toArray 29)).alloc (.cells #[.int .i64 0] 3)).alloc (.cells #[.int .i64 0] 34)=w1 at*;have HS:=S9 hs0;have HB:=S9 (SC hb1 (SC hb2 (SC hb3 hb4)));have c1:w1.cell? ⟨w.heap.size,0,none⟩=some (.string s):=hb1.cell 0;clear hs0 hb1 hb2 hb3 hb4;go_upto_region 2 with(go_at_call 96;(with_reducible refine(HTk.out w1).mono ?_);rintro e3 w2 ⟨v,rfl,hv,k2⟩;obtain⟨Av,mv,cv,rfl,hmv, -⟩:=hv.slice3;have b3:=HB.out.2.2.1.grew k2;have b4:=HB.out.2.2.2.grew k2;have a3:w2.cell? ⟨w.heap.size+2,0,none⟩=some (.int .i64 0):=b3.cell 0;have a4:w2.cell? ⟨w.heap.size+3,0,none⟩=some (.int .i64 0):=b4.cell 0;have f3:=b3.frozen 0;have f4:=b4.frozen 0;have HR2:=S9 (SC hv (SC k2 (SC b3 b4)));clear hv k2 b3 b4);obtain rfl:mv=ts.length:=by rw[hmv,List.length_map]
 obtain⟨hv,k2,b3,b4⟩:=HR2.out;have k3:AC (fun i=>i=w.heap.size+1+1∨i=w.heap.size+1+1+1) w2 ((w2.setCell ⟨w.heap.size+1+1,0,none⟩ (.int .i64 0)).setCell ⟨w.heap.size+1+1+1,0,none⟩ (.int .i64 0)):=Sf (p:=⟨w.heap.size+1+1+1,0,none⟩) (Sf (p:=⟨w.heap.size+1+1,0,none⟩) (Se _ w2) (.inl (.inl rfl)) _) (.inl (.inr rfl)) _;have b3':Ag ((w2.setCell ⟨w.heap.size+1+1,0,none⟩ (.int .i64 0)).setCell ⟨w.heap.size+1+1+1,0,none⟩ (.int .i64 0)) (w.heap.size+1+1) 3 #[.int .i64 0]:=(b3.set_ 0 (.int .i64 0):Ag _ _ _ _).far (p:=⟨w.heap.size+1+1+1,0,none⟩) (by show w.heap.size+1+1≠w.heap.size+1+1+1;omega) _;have b4':Ag ((w2.setCell ⟨w.heap.size+1+1,0,none⟩ (.int .i64 0)).setCell ⟨w.heap.size+1+1+1,0,none⟩ (.int .i64 0)) (w.heap.size+1+1+1) 34 #[.int .i64 0]:=(b4.far (p:=⟨w.heap.size+1+1,0,none⟩) (by show w.heap.size+1+1+1≠w.heap.size+1+1;omega) _).set_ 0 (.int .i64 0);have hs2:=k2.size;have hS:=HS.out;have hb1:=(HB.out.1.grew k2).keep k3 (by omega);have hb2:=(HB.out.2.1.grew k2).keep k3 (by omega);have hk13:AC (fun i=>i=w.heap.size+1+1∨i=w.heap.size+1+1+1) w1 ((w2.setCell ⟨w.heap.size+1+1,0,none⟩ (.int .i64 0)).setCell ⟨w.heap.size+1+1+1,0,none⟩ (.int .i64 0)):=Sb (Si k2) k3 fun i _ h=>h
 have hg3:A5 w ((w2.setCell ⟨w.heap.size+1+1,0,none⟩ (.int .i64 0)).setCell ⟨w.heap.size+1+1+1,0,none⟩ (.int .i64 0)):=Sb hG0 hk13 fun i hi e=>by omega
 have hrow:Ch ((w2.setCell ⟨w.heap.size+1+1,0,none⟩ (.int .i64 0)).setCell ⟨w.heap.size+1+1+1,0,none⟩ (.int .i64 0)) w2.heap.size 4 (.slice Av ts.length cv) (ts.map C3.cells):=
  (hv.keep (Q':=CW 0 w1.heap.size w2.heap.size) (fun b hb=>⟨hb.2,fun h=>by have:=hb.1;omega,hb⟩) k3).toB fun b hb=>hb.2
 have hsz3:((w2.setCell ⟨w.heap.size+1+1,0,none⟩ (.int .i64 0)).setCell ⟨w.heap.size+1+1+1,0,none⟩ (.int .i64 0)).heap.size=w2.heap.size:=by simp
 generalize (w2.setCell ⟨w.heap.size+1+1,0,none⟩ (.int .i64 0)).setCell ⟨w.heap.size+1+1+1,0,none⟩ (.int .i64 0)=w3 at*;have HH:=S9 (SC hb1 (SC hb2 (SC b3' (SC b4' (SC hk13 (SC hg3 (SC hrow hsz3)))))));have c4:w3.cell? ⟨w.heap.size+1+1+1,0,none⟩=some (.int .i64 0):=b4'.cell 0;have c1':w3.cell? ⟨w.heap.size,0,none⟩=some (.string s):=hb1.cell 0;clear hb1 hb2 b3' b4' hk13 hg3 hrow hsz3 hmv a3 a4 f3 f4 hv k2 b3 b4 k3 hs2 hS c1 HR2 HTk;go_upto_region 6 with fail;have hbp:=Sc w3 151 #[.slice Av ts.length cv,.int .i64 (s.size:Nat)];have hg4:=(Sa w3).alloc (.cells #[.slice Av ts.length cv,.int .i64 (s.size:Nat)] 151);have HPS:=S9 (show D4 (w3.alloc (.cells #[.slice Av ts.length cv,.int .i64 (s.size:Nat)] 151)) w3.heap.size (s.size:Nat) ts from⟨Av,ts.length,cv,hbp,(HH.out.2.2.2.2.2.2.1.keep (B':=w3.heap.size) (by have:=HH.out.2.2.2.2.2.2.2;omega) (by have:=HH.out.2.2.2.2.2.2.2;omega) hg4 (fun _ _ h=>h)),rfl⟩);have HG4:=S9 hg4;have hw4s:(w3.alloc (.cells #[.slice Av ts.length cv,.int .i64 (s.size:Nat)] 151)).heap.size=w3.heap.size+1:=by simp
 clear hbp hg4;obtain⟨w4,hw4⟩:∃w4,w3.alloc (.cells #[.slice Av ts.length cv,.int .i64 (s.size:Nat)] 151)=w4:=⟨_,rfl⟩;rw[hw4]at HPS HG4 hw4s ⊢;have HWS:=S9 hw4s;have hlow3:Jr w3.heap.size:=by
  have h1:=HLow.out;have h2:=HH.out.2.2.2.2.2.1.size;exact⟨by have:=h1.1;omega,by have:=h1.2.1;omega,by have:=h1.2.2.1;omega,by have:=h1.2.2.2;omega⟩
 have HEx:=S9 ((Mn w3.heap.size (s.size:Nat) hlow3 (4*ts.length+4) (4*ts.length+4) (SD _) ts t []).1 HPP.out w4 HPS.out ((HTb.out.keep HLow.out HH.out.2.2.2.2.2.1 (fun _ _ h=>h)).keep hlow3 HG4.out (fun _ _ h=>h)));have hb2:=HH.out.2.1.grew HG4.out;have hz3:=HH.out.2.1.lt;have HZ3:=S9 (show w.heap.size+4≤w3.heap.size from by have:=HH.out.2.2.2.1.lt;omega);clear hw4s hw4 c4 c1' hlow3 hz3;go_upto_region 7 with(first|(go_at_call 98;(with_reducible refine HEx.out.mono ?_);rintro e3 w5 ⟨cs,rfl,hr5,hp5,hk5⟩;have h1l:=CH hr5;have h1o:=Al hr5;have hb25:=hb2.keep hk5 (by have:=HZ3.out;omega);have HR5:=S9 (SC hr5 (SC hp5 (SC hk5 (SC h1l h1o))));clear hr5 hp5 hk5)|((with_reducible refine AF 29 (.tmp 2) (.tmp 25) rfl ?_);refine Ar 29 (.tmp 2) (.tmp 25) (w.heap.size+1) cs (AH 0 0) 29 (by rw[h1l];exact AD) (by rw[h1l];rfl) h1o rfl rfl rfl rfl hb25 ?_;intro w6 hb6 k6 d6;have HR6:=S9 (SC hb6 k6);clear k6 d6));have hz:=HZ3.out;obtain⟨A9,m9,c9,hb9, -,hm9⟩:=HR5.out.2.1;obtain rfl:m9=0:=hm9;have hb96:=hb9.keep HR6.out.2 (by omega);have cg:w6.cell? ⟨w3.heap.size,0,none⟩=some (.slice A9 0 c9):=hb96.cell 0;have hs4:=HG4.out.size;have hs5:=HR5.out.2.2.1.size;have hs6:=HR6.out.2.size;have hs3:=HWS.out;have hr6:AW w6 (CW 0 w4.heap.size w6.heap.size) t cs:=AW.keep (fun b hb=>⟨hb.2,fun h=>by have:=hb.1;omega,hb.1,by have:=hb.2;omega⟩) HR6.out.2 _ _ HR5.out.1;have hl:=HR5.out.2.2.2.1;have ho:=HR5.out.2.2.2.2;have hfit:decide (0≤F2 t 1 200)=true:=by
  rw[decide_eq_true_iff,IP];have:=HFt.out;omega
 have HFi:=S9 (KT t (by have:=HFt.out.1;omega) w6 cs (AW.toB (fun b hb=>hb.2) _ _ hr6));rw[hfit]at HFi;have HR66:=S9 hr6;have HKK:=S9 (show AC (fun i=>i=w3.heap.size∨i=w.heap.size+1) w3 w6 from Sb (Sb (Si HG4.out) HR5.out.2.2.1 fun i _ h=> .inl h) HR6.out.2 fun i _ h=> .inr h);clear hb9 hb96 hfit hr6;go_upto_region 11 with(first|((with_reducible refine AG 29 (.tmp 2) rfl ?_);refine BR 29 Tryz.underlying29 rfl (.tmp 2) (w.heap.size+1) cs 29 (by rw[hl];exact AD) rfl rfl rfl hb6 ?_)|(go_at_call 30;(with_reducible refine HFi.out.mono ?_);rintro e3 w7 ⟨rfl,k7⟩;have hb7:=hb6.grew k7;have HK7:=S9 k7;clear k7 cg));have hkk7:AC (fun i=>i=w3.heap.size∨i=w.heap.size+1) w3 w7:=AC.grew HKK.out HK7.out;have b3:=HH.out.2.2.1.keep hkk7 (by omega);have b4:=HH.out.2.2.2.1.keep hkk7 (by omega);have HKK7:=S9 hkk7;have HB34:=S9 (SC b3 b4);clear hkk7 b3 b4;go_wp2_with(first|((with_reducible refine AG 29 (.tmp 2) rfl ?_);refine BR 29 Tryz.underlying29 rfl (.tmp 2) (w.heap.size+1) cs 29 (by rw[hl];exact AD) rfl rfl rfl hb7 ?_)|((with_reducible refine AF 29 (.tmp 2) (.tmp 39) rfl ?_);refine Ar 29 (.tmp 2) (.tmp 39) (w.heap.size+1) cs cs 29 (by rw[hl];exact AD) rfl ho rfl rfl rfl rfl hb7 ?_;intro w8 hb8 k8 d8;have b38:=HB34.out.1.keep k8 (by omega);have b48:=HB34.out.2.keep k8 (by omega);have q3:w8.cell? ⟨w.heap.size+1+1,0,none⟩=some (.int .i64 0):=b38.cell 0;have q4:w8.cell? ⟨w.heap.size+1+1+1,0,none⟩=some (.int .i64 0):=b48.cell 0;have f3:=b38.frozen 0;have f4:=b48.frozen 0;have HR8:=S9 (SC hb8 (SC k8 (SC b38 b48)));clear hb8 k8 d8 b38 b48));obtain⟨hb8,k8,b38,b48⟩:=HR8.out;have k9:AC (fun i=>i=w.heap.size+1+1∨i=w.heap.size+1+1+1) w8 ((w8.setCell ⟨w.heap.size+1+1,0,none⟩ (.int .i64 0)).setCell ⟨w.heap.size+1+1+1,0,none⟩ (.int .i64 0)):=Sf (p:=⟨w.heap.size+1+1+1,0,none⟩) (Sf (p:=⟨w.heap.size+1+1,0,none⟩) (Se _ w8) (.inl (.inl rfl)) _) (.inl (.inr rfl)) _;have b39:Ag ((w8.setCell ⟨w.heap.size+1+1,0,none⟩ (.int .i64 0)).setCell ⟨w.heap.size+1+1+1,0,none⟩ (.int .i64 0)) (w.heap.size+1+1) 3 #[.int .i64 0]:=(b38.set_ 0 (.int .i64 0):Ag _ _ _ _).far (p:=⟨w.heap.size+1+1+1,0,none⟩) (by show w.heap.size+1+1≠w.heap.size+1+1+1;omega) _;have b49:Ag ((w8.setCell ⟨w.heap.size+1+1,0,none⟩ (.int .i64 0)).setCell ⟨w.heap.size+1+1+1,0,none⟩ (.int .i64 0)) (w.heap.size+1+1+1) 34 #[.int .i64 0]:=(b48.far (p:=⟨w.heap.size+1+1,0,none⟩) (by show w.heap.size+1+1+1≠w.heap.size+1+1;omega) _).set_ 0 (.int .i64 0);have hb9:=hb8.keep k9 (by omega);generalize (w8.setCell ⟨w.heap.size+1+1,0,none⟩ (.int .i64 0)).setCell ⟨w.heap.size+1+1+1,0,none⟩ (.int .i64 0)=w9 at*;have p3:w9.cell? ⟨w.heap.size+1+1,0,none⟩=some (.int .i64 0):=b39.cell 0;have p4:w9.cell? ⟨w.heap.size+1+1+1,0,none⟩=some (.int .i64 0):=b49.cell 0;refine leaves_cons (f:=97) (args:=#[.pointer (some ⟨w.heap.size,0,none⟩),.pointer (some ⟨w.heap.size+1,0,none⟩),.pointer (some ⟨w.heap.size+1+1,0,none⟩),.pointer (some ⟨w.heap.size+1+1+1,0,none⟩)]) (by simp) (by simp[go_sem]) ?_;refine(J2 _ _ _ _ _).mono ?_;rintro e u' w10 ⟨rfl,rfl,rfl⟩;have hld:=run_loadVar_mid (P:=Tryz.prog) w10 (w.heap.size+1) 0 29 cs _ (hb9.rangeN 0 cs (by simp)) Tryz.underlying29 rfl (by rw[hl];exact AD);have hl3:(loadVar 3 ⟨w.heap.size+1+1,0,none⟩).run Tryz.prog w10= .ok (.int .i64 0) w10:=by simp[go_sem,p3]
 have hl4:(loadVar 34 ⟨w.heap.size+1+1+1,0,none⟩).run Tryz.prog w10= .ok (.int .i64 0) w10:=by simp[go_sem,p4]
 simp only[Leaves,settle];refine⟨_,J4 rfl rfl rfl rfl hld hl3 hl4,?_⟩;have hs8:=k8.size;have hs9:=k9.size;have hs67:=HK7.out.size;have hr7:AW w7 (CW 0 w4.heap.size w7.heap.size) t cs:=AW.keep (S:=fun _=>False) (fun b hb=>⟨hb.2,fun h=>h,hb.1,by have:=hb.2;omega⟩) HK7.out _ _ HR66.out;have hk79:AC (fun i=>i=w.heap.size+1∨i=w.heap.size+1+1∨i=w.heap.size+1+1+1) w7 w10:=Sb (AC.mono k8 fun i _ h=> .inl h) k9 fun i _ h=> .inr h
 exact⟨cs,rfl,AW.keep (fun b hb=>⟨hb.2,fun h=>by have:=hb.1;omega,.inr (by have:=hb.1;omega),by have:=hb.2;omega⟩) hk79 _ _ hr7,Sb (Sb HH.out.2.2.2.2.2.1 HKK7.out fun i hi e=>by omega) hk79 fun i hi e=>by omega⟩
structure Ic (s u:ByteArray) (t:Ex):Prop where
 size:s.size≤2000
 parse:K7 s=some t
 small:AL t≤200∧BF t≤12
 node:BL Be t
 sok:EH t
 valid:Ca t=0
 node2:BL Be (Ah t)
 prn:BL QD (Ah t)
 valid2:Ca (Ah t)=0
 len:0<(ED (Ah t)).length∧(ED (Ah t)).length≤2000
 text:bl u=ED (Ah t)
theorem E5 {s u:ByteArray} {t:Ex} (H:Ic s u t) (w:World) (ht:D0 w):
  Calls Tryz.prog 35 #[.string s,.string u] w fun e' w'=>e'= .returned (.bool true)∧A5 w w':=by
 have hn:AL t≤1000000:=SH H.small.1 (by decide);have hn2:AL (Ah t)≤1000000:=SH (F5 (AL t) t (SD _) H.sok).2 hn;have HP:=S9 (Ny s t H.size H.parse H.small w ht);have HR:=S9 (fun w' cs (g:A5 w w') (h:BZ w' w'.heap.size t cs)=>Md t hn H.node H.sok H.valid H.node2 w' cs (ht.1.grew g) (ht.2.2.keep g (fun h=>h)) h);have HW:=S9 (fun w' cs (g:A5 w w') (h:BZ w' w'.heap.size (Ah t) cs)=>JK (Ah t) hn2 H.node2 H.prn H.valid2 H.len (by rw[←H.text];exact EW _) w' cs (ht.1.grew g) (ht.2.2.keep g (fun h=>h)) h);have HU:=S9 H.text;clear H ht hn hn2;go_enter Tryz.func35,Tryz.ntmps35;go_upto_region 2 with(first|(go_at_call 66;(with_reducible refine HP.out.mono ?_);rintro e3 wa ⟨cs,rfl,hc,ka⟩;have hl:=hc.len;have ho:=Al hc;have HC:=S9 hc;clear hc)|((with_reducible refine AF 29 (.tmp 5) (.tmp 13) rfl ?_);refine Ar 29 (.tmp 5) (.tmp 13) (wa.heap.size) cs (AH 0 0) 29 (by rw[hl];exact AD) (by rw[hl];rfl) ho rfl rfl rfl rfl (Sc wa 29 _) ?_;intro wb hb5 k5 d5;have g5:A5 wa wb:=Sb ((Sa wa).alloc _) k5 (fun i hi e=>by omega)));have hsz:=g5.size;have HRw:=S9 (HR.out wb cs (ka.trans g5) (AW.toB (Q:=CW 0 w.heap.size wa.heap.size) (fun b hb=>SE hb.2 hsz) t cs (HC.out.grewQ (fun b hb=>hb.2) g5)));have HGb:=S9 (ka.trans g5);clear ka g5 k5 d5 hsz ho;go_upto_region 3 with(first|((with_reducible refine AG 29 (.tmp 5) rfl ?_);refine BR 29 Tryz.underlying29 rfl (.tmp 5) (wa.heap.size) cs 29 (by rw[hl];exact AD) rfl rfl rfl hb5 ?_)|(go_at_call 8;(with_reducible refine HRw.out.mono ?_);rintro e4 wc ⟨cs2,rfl,hc2,kc⟩;have HC2:=S9 (HW.out wc cs2 (HGb.out.trans kc) (AW.toB (fun b hb=>hb.2) _ _ hc2));have HGc:=S9 (HGb.out.trans kc);clear hc2 kc)|(go_at_call 67;(with_reducible refine HC2.out.mono ?_);rintro e5 wd ⟨v,rfl,hv,kd⟩;obtain rfl:v=u:=OW (hv.trans HU.out.symm);have HGd:=S9 (HGc.out.trans kd);clear hv kd));refine AK [(.int .i64 0),.bool true,.bool true,(.int .i64 0),.bool true,.bool true,.bool true,.string v,.string v,.bool true,.bool true,.bool true] _ (by kernel_rfl) (by kernel_rfl) rfl ?sH ?sT
 case sH=>
  simp only[List.toList_toArray,List.append_eq,List.cons_append,List.nil_append,AI,Act.put,List.setIfInBounds_toArray,List.set_cons_zero,List.set_cons_succ];refine A4 (by kernel_rfl) (fun w' hg=>?_) ?_
  ·go_simp;exact Sa _
  refine A4 (by kernel_rfl) (fun w' hg=>?_) ?_
  ·go_simp;exact Sa _
  refine A4 (by kernel_rfl) (fun w' hg=>?_) ?_
  ·go_simp;exact Sa _
  refine A4 (by kernel_rfl) (fun w' hg=>?_) ?_
  ·go_simp;exact Sa _
  refine A4 (by kernel_rfl) (fun w' hg=>?_) ?_
  ·go_simp;exact Sa _
  refine A4 (by kernel_rfl) (fun w' hg=>?_) ?_
  ·go_simp;exact Sa _
  refine A4 (by kernel_rfl) (fun w' hg=>?_) ?_
  ·go_simp;exact Sa _
  refine A4 (by kernel_rfl) (fun w' hg=>?_) ?_
  ·go_simp;exact Sa _
  refine A4 (by kernel_rfl) (fun w' hg=>?_) ?_
  ·go_simp;exact Sa _
  refine A4 (by kernel_rfl) (fun w' hg=>?_) ?_
  ·go_simp;exact Sa _
  refine A4 (by kernel_rfl) (fun w' hg=>?_) ?_
  ·go_simp;exact Sa _
  refine A4 (by kernel_rfl) (fun w' hg=>?_) ?_
  ·go_simp;exact Sa _
  exact AQ
 case sT=>
  intro w9 hg9;simp only[List.toList_toArray,List.append_eq,List.cons_append,List.nil_append,AI,Act.put,List.setIfInBounds_toArray,List.set_cons_zero,List.set_cons_succ];go_wp2_with fail;go_ret;exact⟨rfl,HGd.out.trans hg9⟩
end Go.Proofs.YthpflelgbadkcaaGreatDoor
