/- What the card of the law stands on: LexD, ParG, Becm, LivP. -/
import Derived.Test.YthpflelgbadkcaaGreatDoorRewriteTypesP01
import Derived.Test.YthpflelgbadkcaaGreatDoorRewriteTypesP32
import Derived.Test.YthpflelgbadkcaaGreatDoorRewriteTypesP06
import Derived.Test.YthpflelgbadkcaaGreatDoorRewriteTypesP31
import Derived.Test.YthpflelgbadkcaaGreatDoorRewriteTypesP10
import Derived.Defers
import Derived.Recover
import Derived.RegionTactic
import Derived.BigRegion
import Derived.Test.YthpflelgbadkcaaGreatDoorRewriteTypesP30
set_option maxRecDepth 100000
set_option maxHeartbeats 12800000
set_option linter.unusedVariables false
set_option linter.unusedSimpArgs false
namespace Go.Proofs.YthpflelgbadkcaaGreatDoor
open Go.RowKit Go.Shelf Pl
attribute [local go_sem] Oper.semAt_some
theorem UK:My Tryz.prog 143 184 4 40 (.agg #[.int .i64 0,.string ⟨#[]⟩,.int .i64 0,.int .i64 0]):=⟨Tryz.underlying143,by kernel_rfl,rfl,by decide,by decide⟩
theorem A4.others {W W':World} (h:A4 W W'):KeepsOthers W W':=⟨h.size,fun k o hk _=>(h.block k (VK.1 hk).1 (fun h=>h)).trans hk⟩
def RW (ts:List C7) (w:World) (e:Ending) (w':World):Prop:=∃v,e= .returned (.tuple #[v,.int .i64 0,.int .i64 0])∧Ba w' (DK 0 w.heap.size w'.heap.size) 4 v (ts.map C7.cells)∧A4 w w'
theorem FE.abides {w0:World} {bt M:Nat} (hb:bt<M) (h0:w0.heap.size≤M):OwnFrom M (FE w0 bt M):=by
 intro pre A B row h hg hr;obtain⟨v,hb1,hm,hgr⟩:=h;have hk:AA (fun i=>row=some i) A B:=⟨hg.os,hg.tape,hg.output,hg.size,fun i hi hn=>hg.block i hi fun e=>hn e.symm⟩;refine⟨v,hb1.keep hk (fun e=>by have:=(hr _ e).1;omega),hm.keep hk (fun i hi e=>?_),VV hgr hk fun i hi e=>by have:=(hr _ e).1;omega⟩;obtain⟨o,ho,hc⟩:=(hr _ e).2;rcases hm.form with⟨rfl, -⟩|⟨g,cap,cur,rfl, -,hbox, -⟩
 ·cases hi
 obtain rfl:g=i:=by simpa[Value.ownBlock]using hi
 unfold AR at hbox;rw[hbox]at ho;obtain rfl:=VE ho;cases hc
theorem PS {s:ByteArray}:∀{i:Nat} {ts:List C7},Dq s i ts→ts.length+i≤max s.size i:=by
 intro i ts h
 induction h with
 |stop h=>simp;omega
 |blank h1 _ _ ih=>omega
 |@tok i j t ts h1 hb ht _ ih=>
  have hj:i<j:=by
   by_cases hl:GH (FR s i)=true
   ·obtain⟨-, -,rfl⟩:=Gp ht hl;exact Im h1 (by unfold Ck;rw[hl];rfl)
   by_cases hd:C8 (FR s i)=true
   ·obtain⟨-, -,rfl⟩:=F1 ht (by simpa using hl) hd;exact Im h1 hd
   obtain⟨-,h2, -,rfl⟩:=F0 ht (by simpa using hl) (by simpa using hd);have:=(G6 h1 h2).2;omega
  have hj2:j≤s.size:=by
   by_cases hl:GH (FR s i)=true
   ·obtain⟨-, -,rfl⟩:=Gp ht hl;exact(EN _ _ (by omega)).2
   by_cases hd:C8 (FR s i)=true
   ·obtain⟨-, -,rfl⟩:=F1 ht (by simpa using hl) hd;exact(EN _ _ (by omega)).2
   obtain⟨-,h2, -,rfl⟩:=F0 ht (by simpa using hl) (by simpa using hd);have:=(G6 h1 h2).1;omega
  simp only[List.length_cons];omega
theorem NK (s:ByteArray) (ts:List C7) (hs:s.size≤2000) (hlx:Dq s 0 ts) (w:World):Calls Tryz.prog 96 #[.string s] w (RW ts w):=by
 have hlen:ts.length≤2000:=by have:=PS hlx;omega
 have t0:decide ((s.size:Int)>2000)=false:=by simp;omega
 refine(callsIn_wide (n:=5)).1 ?_;refine callsIn_of_wp_marks Tryz.func96 rfl trivial ?_ rfl;simp only[Tryz.ntmps96,List.size_toArray,List.length_cons,List.length_nil,Nat.reduceAdd,Nat.reduceSub,Array.replicate_succ,Array.replicate_zero,List.push_toArray,List.append_toArray,List.nil_append,List.cons_append];have HLX:=V3 hlx;have HLN:=V3 hlen;have HSZ:=V3 hs;clear hlx hlen hs
 gi_wp2
 have hq0:E1 ((w.alloc (.cells #[.string s,.int .i64 0,.int .i64 0] 181)).alloc (.cells #[.slice none 0 0] 143)) w.heap.size s 0 0:=(VW w 181 #[.string s,.int .i64 0,.int .i64 0]).alloc _;have hb0:=VW (w.alloc (.cells #[.string s,.int .i64 0,.int .i64 0] 181)) 143 #[.slice none 0 0];have hg0:A4 w ((w.alloc (.cells #[.string s,.int .i64 0,.int .i64 0] 181)).alloc (.cells #[.slice none 0 0] 143)):=((VU w).alloc _).alloc _;have hs0:((w.alloc (.cells #[.string s,.int .i64 0,.int .i64 0] 181)).alloc (.cells #[.slice none 0 0] 143)).heap.size=w.heap.size+2:=by simp
 rw[World.size_alloc]at hb0;generalize (w.alloc (.cells #[.string s,.int .i64 0,.int .i64 0] 181)).alloc (.cells #[.slice none 0 0] 143)=W0 at*;have hi0:FE w (w.heap.size+1) W0.heap.size [] W0:=⟨_,hb0,⟨World.ownsRow_nil _ _ _ _,by intro r hr;cases hr⟩,hg0⟩;refine Hz (F:=Fence.wide) (n:=5) (α:=C7) rfl (by omega) (gf:=124) (fs:=#[.pointer (some ⟨w.heap.size,0,none⟩)]) (lb:=#[]) rfl trivial (enters_of Tryz.func124 (by kernel_rfl) rfl) (encs:=fun x=>#[.agg x.cells.toArray]) (fun _=>rfl) (fun pre x=>∃us,pre++x::us=ts)
  (FE w (w.heap.size+1) W0.heap.size) (FE.abides (by omega) (by omega)) hi0
  (fun x z=>{ tmps:=#[.string s,undef,.slice none 0 0,.int .i64 0,.int .i64 0,.pointer (some ⟨w.heap.size,0,none⟩),.pointer (some ⟨w.heap.size+1,0,none⟩),.pointer (some ⟨z,0,none⟩),.string s,.int .i64 (s.size:Nat),.bool false,.string s,.agg #[.string s,.int .i64 0,.int .i64 0],.pointer (some ⟨w.heap.size,0,none⟩),.pointer (some ⟨w.heap.size,0,none⟩),.func (.func 124) #[.pointer (some ⟨w.heap.size,0,none⟩)] #[],.agg x.cells.toArray,undef,undef,undef,undef,undef,undef,undef,undef,undef,undef,undef,undef,undef,undef,undef,undef,undef,undef],defers:=[] }) 184 (fun x=>x.cells.toArray)
  (NX (w.heap.size+1)) ?hS (fun xs W=>xs=ts∧FE w (w.heap.size+1) W0.heap.size xs W∧E1 W w.heap.size s s.size 0) ?hR ?hseq ?assign ?body ?hSz ?done
 case hS=>
  intro W W' i hb hs;rcases hs with hs|⟨v,hv,ho⟩
  ·exact .inl hs
  exact .inr ⟨v,(World.cell?_of_block (a:=⟨w.heap.size+1,0,none⟩) (hb (w.heap.size+1) (by omega))).symm.trans hv,ho⟩
 case hR=>
  intro xs A B row h hg hr;have hk:AA (fun i=>row=some i) A B:=⟨hg.os,hg.tape,hg.output,hg.size,fun i hi hn=>hg.block i hi fun e=>hn e.symm⟩;exact⟨h.1,FE.abides (by omega) (by omega) xs A B row h.2.1 hg hr,AR.keep h.2.2 hk fun e=>by have:=(hr _ e).1;omega⟩
 case hseq=>
  intro l oL oD W hl hoL hoD hI hG hY;refine(Ro l w.heap.size (w.heap.size+1) W0.heap.size w oL oD W0.heap.size s (by have:=HSZ.out;omega) ⟨V6 _,by omega,by omega,V6 _,hl⟩ ts HLX.out hY W (hq0.grew hG) hI hoL hoD).mono ?_;rintro e W' ⟨he,xs,h1,h2,h3⟩;exact⟨he,xs,h1,h2,h3⟩
 case hSz=>
  intro pre W z hI hs;have h1:=hI.choose_spec.1.lt;rcases Iq hI rfl hs with h|h
  ·omega
  exact h.2
 case assign=>
  intro l x W K hK
  gi_wp2_with ((with_reducible refine Fx 184 (.tmp 7) (.tmp 16) rfl ?_);refine Kq 184 (.tmp 7) (.tmp 16) W.heap.size x.cells [.int .i64 0,.string ⟨#[]⟩,.int .i64 0,.int .i64 0] 184 E4 rfl (Cp _ _ _ _) rfl rfl rfl rfl (VW W 184 _) ?_;intro w8 hb8 k8 d8)
  have hG:A4 W w8:=VV ((VU W).alloc _) k8 (fun i hi e=>by omega);exact hK w8 hG hG.others hb8
 case body=>
  rintro l pre x z W ⟨us,hus⟩ hI hbz hWl hlz hnz;obtain⟨v,hb,hm,hg⟩:=hI;have hpl:(pre.map C7.cells).length<1099511627:=by
   have h1:=HLN.out;rw[←hus]at h1;simp at h1 ⊢;omega
  clear hus;obtain⟨tk,tt,tn,tf⟩:=x;have c0:W.cell? ⟨w.heap.size+1,0,none⟩=some v:=hb.cell 0;have f0:W.frozen? ⟨w.heap.size+1,0,none⟩=false:=hb.frozen 0;have z0:W.cell? ⟨z,0,none⟩=some (.int .i64 (tk:Nat)):=hbz.cell 0;have z1:W.cell? ⟨z,1,none⟩=some (.string tt):=hbz.cell 1;have z2:W.cell? ⟨z,2,none⟩=some (.int .i64 (tn:Nat)):=hbz.cell 2;have z3:W.cell? ⟨z,3,none⟩=some (.int .i64 (tf:Nat)):=hbz.cell 3;have HB:=V3 (V5 hb (V5 hm hg));have hbs:W0.heap.size≤W.heap.size:=by have:=hbz.lt;omega
  clear hb hm hg hbz
  gi_wp2_with (gi_at_builtin;refine LR UK rfl (.tmp 17) (.tmp 19) rfl rfl (HB.out.2.1.keep ((VY (fun _=>False) W).alloc _) (fun _ _ h=>h)) W.heap.size 1 (C7.cells ⟨tk,tt,tn,tf⟩) 184 rfl (V6 _) (VW W 184 _) rfl (Cp _ _ _ _) hpl (by simp;omega) ?_;intro r n' cap w1 hM1 hk1;have hgw:A4 W (W.alloc (.cells (C7.cells ⟨tk,tt,tn,tf⟩).toArray 184)):=(VU W).alloc _;have hbx:=(HB.out.1.grew hgw).keep hk1 (fun e=>by have:=(HB.out.2.1.lt _ e).1;omega);have cx:w1.cell? ⟨w.heap.size+1,0,none⟩=some v:=hbx.cell 0;have fx:=hbx.frozen 0;have HX:=V3 (V5 hM1 (V5 hk1 (V5 hgw hbx)));clear hM1 hk1 hgw hbx)
  obtain⟨hM1,hk1,hgw,hbx⟩:=HX.out;have hb9:AR (w1.setCell ⟨w.heap.size+1,0,none⟩ (.slice (some ⟨r,0,none⟩) n' cap)) (w.heap.size+1) 143 #[.slice (some ⟨r,0,none⟩) n' cap]:=hbx.set_ 0 _;have hks:AA (fun b=>b=w.heap.size+1) w1 (w1.setCell ⟨w.heap.size+1,0,none⟩ (.slice (some ⟨r,0,none⟩) n' cap)):=VZ (S:=fun b=>b=w.heap.size+1) (p:=⟨w.heap.size+1,0,none⟩) (VY _ w1) (.inl rfl) _;have hk9:AA (NX (w.heap.size+1) W) W (w1.setCell ⟨w.heap.size+1,0,none⟩ (.slice (some ⟨r,0,none⟩) n' cap)):=VV (VV hgw.keeps hk1 (fun i hi e=> .inr ⟨v,c0,e⟩)) hks (fun i hi e=> .inl e);refine⟨⟨hk9.size,fun k o hk ho=>?_⟩,hk9,?_⟩
  ·refine(hk9.block k (VK.1 hk).1 fun hS=>?_).trans hk;rcases hS with rfl|⟨v',hv',ho'⟩
   ·have:=HB.out.1;unfold AR at this;rw[this]at hk;obtain rfl:=VE hk;cases ho
   rw[c0]at hv';obtain rfl:=VE hv';rcases HB.out.2.1.form with⟨rfl, -⟩|⟨g,cap',cur,rfl, -,hbox, -⟩
   ·cases ho'
   obtain rfl:g=k:=by simpa[Value.ownBlock]using ho'
   unfold AR at hbox;rw[hbox]at hk;obtain rfl:=VE hk;cases ho
  refine⟨_,hb9,?_,VV HB.out.2.2 hk9 fun i hi hS=>?_⟩
  ·rw[List.map_append,←hs0];exact hM1.keep hks (fun i hi e=>by have:=(hM1.lt i hi).1;omega)
  rcases hS with h|⟨v',hv',ho'⟩
  ·omega
  rw[c0]at hv';obtain rfl:=VE hv';have:=(HB.out.2.1.lt i ho').1;omega
 case done=>
  rintro xs W ⟨rfl,hti,hq⟩ hK;obtain⟨v,hb,hm,hg⟩:=hti;have c0:W.cell? ⟨w.heap.size+1,0,none⟩=some v:=hb.cell 0;have c2:W.cell? ⟨w.heap.size,2,none⟩=some (.int .i64 0):=hq.cell 2;have HB:=V3 (V5 hb (V5 hm hg));clear hb hm hg hq
  gi_wp2
  refine⟨by simp,.inl ⟨_,_,rfl,run_takeDeferred hK,?_⟩⟩;obtain⟨v',hb',hm',hg'⟩:=OwnFrom.putObj (I:=FE w (w.heap.size+1) W0.heap.size) (FE.abides (by omega) (by omega)) (.deferred none) ⟨v,HB.out.1,HB.out.2.1,HB.out.2.2⟩ (V6 _) hK rfl;have hv':v'=v:=by
   have h1:=hb'.cell 0;rw[World.cell?_of_block (a:=⟨w.heap.size+1,0,none⟩) (World.putObj_heap_other (by show w.heap.size+1≠W0.heap.size;omega)),c0]at h1;exact(VE h1).symm
  subst hv';exact⟨.tuple #[v',.int .i64 0,.int .i64 0],by simp[results,Tryz.func96],v',rfl,hm'.own.keep (S:=fun _=>False) (fun b hb=>⟨(hm'.lt b hb).2,fun h=>h,.inr (by have:=(hm'.lt b hb).1;omega),(hm'.lt b hb).2⟩) (VU _),hg'⟩
end Go.Proofs.YthpflelgbadkcaaGreatDoor
namespace Go.Proofs.YthpflelgbadkcaaGreatDoor
open Go.RowKit Pl
theorem K4 (p1 p2 p3 p4:Value) (w:World):
  CallsD Tryz.prog 97 #[p1,p2,p3,p4] .returning w fun e u' w'=>u'= .returning∧(e= .returned (.tuple #[])∧w'=w):=by
 refine callsD_of_wpS Tryz.func97 rfl fun c₀ cs hu=>?_
 apply wpS_seq;apply wpS_region;simp[wpOpsS,go_sem,recoverD,hu,Tryz.ntmps97,Exit.thenS];apply wpS_seq;apply wpS_region;simp[wpOpsS,go_sem,recoverD,hu,Tryz.ntmps97,Exit.thenS];refine wpS_cond (t:=false) (by simp[Act.eval,Array.replicate]) ?_;simp only[Bool.false_eq_true,if_false];refine wpS_of_wp (wp_skip ?_);cases c₀;simp_all [bodyPostS,results,Tryz.results97]
def PE (t:Ex) (w:World) (e:Ending) (w':World):Prop:=∃cs,e= .returned (.tuple #[.agg cs.toArray,.int .i64 0,.int .i64 0])∧AZ w' (DK 0 w.heap.size w'.heap.size) t cs∧A4 w w'
theorem Lh {s:ByteArray} {e:Ex} (h:LH s=some e):∃ts,Dq s 0 ts∧CE (4*ts.length+4) 0 ts=some (e,[]):=by
 unfold LH at h;split at h
 ·cases h
 ·rename_i ts hl
  split at h
  ·rename_i e' hp
   obtain rfl:=VE h;exact⟨ts,GO _ _ _ hl,hp⟩
  cases h
theorem K1 {fn:Func} {p q r:Tmp} {ty t1 t2:TypeId} (h:fn.results=#[.cell p ty,.cell q t1,.cell r t2]) {tmps:Array Value} {w:World} {a b c:Addr} {v v1 v2:Value} (hp:tmps.getD p undef= .pointer (some a)) (hq:tmps.getD q undef= .pointer (some b)) (hr:tmps.getD r undef= .pointer (some c)) (hl:(loadVar ty a).run Tryz.prog w= .ok v w) (hl1:(loadVar t1 b).run Tryz.prog w= .ok v1 w) (hl2:(loadVar t2 c).run Tryz.prog w= .ok v2 w):
  (results fn tmps).run Tryz.prog w= .ok (.tuple #[v,v1,v2]) w:=by
 simp only[results,h];rw[Array.getD_eq_getD_getElem?]at hp hq hr
 first|(simp[hp,hq,hr,Result.andThen,hl,hl1,hl2,asAddr];done)|(simp[Sem.run_bind,hp,hq,hr,Result.andThen,hl,hl1,hl2,asAddr];done)|(simp only[Sem.run_bind];simp[hp,hq,hr,Result.andThen,hl,hl1,hl2,asAddr])
theorem Ba.slice3 {w:World} {Q:Nat→Prop} {sz:Nat} {v:Value} {rows:List (List Value)} (h:Ba w Q sz v rows):∃A n c,v= .slice A n c∧n=rows.length∧n≤c:=by
 obtain⟨A,c,rfl,hc, -⟩:=h;exact⟨A,_,c,rfl,rfl,hc⟩
theorem Oj (s:ByteArray) (t:Ex) (hs:s.size≤2000) (hp:LH s=some t) (hf:AH t≤200∧BN t≤12) (w:World) (ht:Cy w):Calls Tryz.prog 66 #[.string s] w (PE t w):=by
 have hmf:∀(fn:Fn) (first cap:Array Value) (w:World),(Instr.makeFunc fn first cap).run Tryz.prog w= .ok (.func fn first cap) w:=fun _ _ _ _=>rfl
 obtain⟨ts,hlx,hpp⟩:=Lh hp;have HTk:=V3 (NK s ts hs hlx);have hb1:=(((VW w 9 #[.string s]).alloc (.cells (AJ 0 0).toArray 29)).alloc (.cells #[.int .i64 0] 3)).alloc (.cells #[.int .i64 0] 34);have hb2:=((VW (w.alloc (.cells #[.string s] 9)) 29 (AJ 0 0).toArray).alloc (.cells #[.int .i64 0] 3)).alloc (.cells #[.int .i64 0] 34);have hb3:=(VW ((w.alloc (.cells #[.string s] 9)).alloc (.cells (AJ 0 0).toArray 29)) 3 #[.int .i64 0]).alloc (.cells #[.int .i64 0] 34);have hb4:=VW (((w.alloc (.cells #[.string s] 9)).alloc (.cells (AJ 0 0).toArray 29)).alloc (.cells #[.int .i64 0] 3)) 34 #[.int .i64 0];simp only[World.size_alloc]at hb1 hb2 hb3 hb4;have hG0:A4 w ((((w.alloc (.cells #[.string s] 9)).alloc (.cells (AJ 0 0).toArray 29)).alloc (.cells #[.int .i64 0] 3)).alloc (.cells #[.int .i64 0] 34)):=((((VU w).alloc _).alloc _).alloc _).alloc _;have hs0:((((w.alloc (.cells #[.string s] 9)).alloc (.cells (AJ 0 0).toArray 29)).alloc (.cells #[.int .i64 0] 3)).alloc (.cells #[.int .i64 0] 34)).heap.size=w.heap.size+4:=by simp
 have HPP:=V3 hpp;have HFt:=V3 hf;have HTb:=V3 ht;have hlow:L9 w.heap.size:=⟨ht.1.1,ht.2.2.1,ht.2.1.1,ht.2.2.2.2.1⟩;have HLow:=V3 hlow;clear hs hp hlx hpp hf ht hlow;go_enter_defers Tryz.func66,Tryz.ntmps66;go_upto_region 1 with fail;change Code.wp _ _ _ _ ((((w.alloc (.cells #[.string s] 9)).alloc (.cells (AJ 0 0).toArray 29)).alloc (.cells #[.int .i64 0] 3)).alloc (.cells #[.int .i64 0] 34));generalize (((w.alloc (.cells #[.string s] 9)).alloc (.cells (AJ 0 0).toArray 29)).alloc (.cells #[.int .i64 0] 3)).alloc (.cells #[.int .i64 0] 34)=w1 at*;have HS:=V3 hs0;have HB:=V3 (V5 hb1 (V5 hb2 (V5 hb3 hb4)));have c1:w1.cell? ⟨w.heap.size,0,none⟩=some (.string s):=hb1.cell 0;clear hs0 hb1 hb2 hb3 hb4;go_upto_region 2 with(go_at_call 96;(with_reducible refine(HTk.out w1).mono ?_);rintro e3 w2 ⟨v,rfl,hv,k2⟩;obtain⟨Av,mv,cv,rfl,hmv, -⟩:=hv.slice3;have b3:=HB.out.2.2.1.grew k2;have b4:=HB.out.2.2.2.grew k2;have a3:w2.cell? ⟨w.heap.size+2,0,none⟩=some (.int .i64 0):=b3.cell 0;have a4:w2.cell? ⟨w.heap.size+3,0,none⟩=some (.int .i64 0):=b4.cell 0;have f3:=b3.frozen 0;have f4:=b4.frozen 0;have HR2:=V3 (V5 hv (V5 k2 (V5 b3 b4)));clear hv k2 b3 b4);obtain rfl:mv=ts.length:=by rw[hmv,List.length_map]
 obtain⟨hv,k2,b3,b4⟩:=HR2.out;have k3:AA (fun i=>i=w.heap.size+1+1∨i=w.heap.size+1+1+1) w2 ((w2.setCell ⟨w.heap.size+1+1,0,none⟩ (.int .i64 0)).setCell ⟨w.heap.size+1+1+1,0,none⟩ (.int .i64 0)):=VZ (p:=⟨w.heap.size+1+1+1,0,none⟩) (VZ (p:=⟨w.heap.size+1+1,0,none⟩) (VY _ w2) (.inl (.inl rfl)) _) (.inl (.inr rfl)) _;have b3':AR ((w2.setCell ⟨w.heap.size+1+1,0,none⟩ (.int .i64 0)).setCell ⟨w.heap.size+1+1+1,0,none⟩ (.int .i64 0)) (w.heap.size+1+1) 3 #[.int .i64 0]:=(b3.set_ 0 (.int .i64 0):AR _ _ _ _).far (p:=⟨w.heap.size+1+1+1,0,none⟩) (by show w.heap.size+1+1≠w.heap.size+1+1+1;omega) _;have b4':AR ((w2.setCell ⟨w.heap.size+1+1,0,none⟩ (.int .i64 0)).setCell ⟨w.heap.size+1+1+1,0,none⟩ (.int .i64 0)) (w.heap.size+1+1+1) 34 #[.int .i64 0]:=(b4.far (p:=⟨w.heap.size+1+1,0,none⟩) (by show w.heap.size+1+1+1≠w.heap.size+1+1;omega) _).set_ 0 (.int .i64 0);have hs2:=k2.size;have hS:=HS.out;have hb1:=(HB.out.1.grew k2).keep k3 (by omega);have hb2:=(HB.out.2.1.grew k2).keep k3 (by omega);have hk13:AA (fun i=>i=w.heap.size+1+1∨i=w.heap.size+1+1+1) w1 ((w2.setCell ⟨w.heap.size+1+1,0,none⟩ (.int .i64 0)).setCell ⟨w.heap.size+1+1+1,0,none⟩ (.int .i64 0)):=VV (Vb k2) k3 fun i _ h=>h
 have hg3:A4 w ((w2.setCell ⟨w.heap.size+1+1,0,none⟩ (.int .i64 0)).setCell ⟨w.heap.size+1+1+1,0,none⟩ (.int .i64 0)):=VV hG0 hk13 fun i hi e=>by omega
 have hrow:Cg ((w2.setCell ⟨w.heap.size+1+1,0,none⟩ (.int .i64 0)).setCell ⟨w.heap.size+1+1+1,0,none⟩ (.int .i64 0)) w2.heap.size 4 (.slice Av ts.length cv) (ts.map C7.cells):=
  (hv.keep (Q':=DK 0 w1.heap.size w2.heap.size) (fun b hb=>⟨hb.2,fun h=>by have:=hb.1;omega,hb⟩) k3).toB fun b hb=>hb.2
 have hsz3:((w2.setCell ⟨w.heap.size+1+1,0,none⟩ (.int .i64 0)).setCell ⟨w.heap.size+1+1+1,0,none⟩ (.int .i64 0)).heap.size=w2.heap.size:=by simp
 generalize (w2.setCell ⟨w.heap.size+1+1,0,none⟩ (.int .i64 0)).setCell ⟨w.heap.size+1+1+1,0,none⟩ (.int .i64 0)=w3 at*;have HH:=V3 (V5 hb1 (V5 hb2 (V5 b3' (V5 b4' (V5 hk13 (V5 hg3 (V5 hrow hsz3)))))));have c4:w3.cell? ⟨w.heap.size+1+1+1,0,none⟩=some (.int .i64 0):=b4'.cell 0;have c1':w3.cell? ⟨w.heap.size,0,none⟩=some (.string s):=hb1.cell 0;clear hb1 hb2 b3' b4' hk13 hg3 hrow hsz3 hmv a3 a4 f3 f4 hv k2 b3 b4 k3 hs2 hS c1 HR2 HTk;go_upto_region 6 with fail;have hbp:=VW w3 151 #[.slice Av ts.length cv,.int .i64 (s.size:Nat)];have hg4:=(VU w3).alloc (.cells #[.slice Av ts.length cv,.int .i64 (s.size:Nat)] 151);have HPS:=V3 (show DB (w3.alloc (.cells #[.slice Av ts.length cv,.int .i64 (s.size:Nat)] 151)) w3.heap.size (s.size:Nat) ts from⟨Av,ts.length,cv,hbp,(HH.out.2.2.2.2.2.2.1.keep (B':=w3.heap.size) (by have:=HH.out.2.2.2.2.2.2.2;omega) (by have:=HH.out.2.2.2.2.2.2.2;omega) hg4 (fun _ _ h=>h)),rfl⟩);have HG4:=V3 hg4;have hw4s:(w3.alloc (.cells #[.slice Av ts.length cv,.int .i64 (s.size:Nat)] 151)).heap.size=w3.heap.size+1:=by simp
 clear hbp hg4;obtain⟨w4,hw4⟩:∃w4,w3.alloc (.cells #[.slice Av ts.length cv,.int .i64 (s.size:Nat)] 151)=w4:=⟨_,rfl⟩;rw[hw4]at HPS HG4 hw4s ⊢;have HWS:=V3 hw4s;have hlow3:L9 w3.heap.size:=by
  have h1:=HLow.out;have h2:=HH.out.2.2.2.2.2.1.size;exact⟨by have:=h1.1;omega,by have:=h1.2.1;omega,by have:=h1.2.2.1;omega,by have:=h1.2.2.2;omega⟩
 have HEx:=V3 ((Nj w3.heap.size (s.size:Nat) hlow3 (4*ts.length+4) (4*ts.length+4) (V6 _) ts t []).1 HPP.out w4 HPS.out ((HTb.out.keep HLow.out HH.out.2.2.2.2.2.1 (fun _ _ h=>h)).keep hlow3 HG4.out (fun _ _ h=>h)));have hb2:=HH.out.2.1.grew HG4.out;have hz3:=HH.out.2.1.lt;have HZ3:=V3 (show w.heap.size+4≤w3.heap.size from by have:=HH.out.2.2.2.1.lt;omega);clear hw4s hw4 c4 c1' hlow3 hz3;go_upto_region 7 with(first|(go_at_call 98;(with_reducible refine HEx.out.mono ?_);rintro e3 w5 ⟨cs,rfl,hr5,hp5,hk5⟩;have h1l:=CN hr5;have h1o:=Ap hr5;have hb25:=hb2.keep hk5 (by have:=HZ3.out;omega);have HR5:=V3 (V5 hr5 (V5 hp5 (V5 hk5 (V5 h1l h1o))));clear hr5 hp5 hk5)|((with_reducible refine AG 29 (.tmp 2) (.tmp 25) rfl ?_);refine BL 29 (.tmp 2) (.tmp 25) (w.heap.size+1) cs (AJ 0 0) 29 (by rw[h1l];exact AE) (by rw[h1l];rfl) h1o rfl rfl rfl rfl hb25 ?_;intro w6 hb6 k6 d6;have HR6:=V3 (V5 hb6 k6);clear k6 d6));have hz:=HZ3.out;obtain⟨A9,m9,c9,hb9, -,hm9⟩:=HR5.out.2.1;obtain rfl:m9=0:=hm9;have hb96:=hb9.keep HR6.out.2 (by omega);have cg:w6.cell? ⟨w3.heap.size,0,none⟩=some (.slice A9 0 c9):=hb96.cell 0;have hs4:=HG4.out.size;have hs5:=HR5.out.2.2.1.size;have hs6:=HR6.out.2.size;have hs3:=HWS.out;have hr6:AZ w6 (DK 0 w4.heap.size w6.heap.size) t cs:=AZ.keep (fun b hb=>⟨hb.2,fun h=>by have:=hb.1;omega,hb.1,by have:=hb.2;omega⟩) HR6.out.2 _ _ HR5.out.1;have hl:=HR5.out.2.2.2.1;have ho:=HR5.out.2.2.2.2;have hfit:decide (0≤FV t 1 200)=true:=by
  rw[decide_eq_true_iff,JN];have:=HFt.out;omega
 have HFi:=V3 (MN t (by have:=HFt.out.1;omega) w6 cs (AZ.toB (fun b hb=>hb.2) _ _ hr6));rw[hfit]at HFi;have HR66:=V3 hr6;have HKK:=V3 (show AA (fun i=>i=w3.heap.size∨i=w.heap.size+1) w3 w6 from VV (VV (Vb HG4.out) HR5.out.2.2.1 fun i _ h=> .inl h) HR6.out.2 fun i _ h=> .inr h);clear hb9 hb96 hfit hr6;go_upto_region 11 with(first|((with_reducible refine AF 29 (.tmp 2) rfl ?_);refine BZ 29 Tryz.underlying29 rfl (.tmp 2) (w.heap.size+1) cs 29 (by rw[hl];exact AE) rfl rfl rfl hb6 ?_)|(go_at_call 30;(with_reducible refine HFi.out.mono ?_);rintro e3 w7 ⟨rfl,k7⟩;have hb7:=hb6.grew k7;have HK7:=V3 k7;clear k7 cg));have hkk7:AA (fun i=>i=w3.heap.size∨i=w.heap.size+1) w3 w7:=AA.grew HKK.out HK7.out;have b3:=HH.out.2.2.1.keep hkk7 (by omega);have b4:=HH.out.2.2.2.1.keep hkk7 (by omega);have HKK7:=V3 hkk7;have HB34:=V3 (V5 b3 b4);clear hkk7 b3 b4;go_wp2_with(first|((with_reducible refine AF 29 (.tmp 2) rfl ?_);refine BZ 29 Tryz.underlying29 rfl (.tmp 2) (w.heap.size+1) cs 29 (by rw[hl];exact AE) rfl rfl rfl hb7 ?_)|((with_reducible refine AG 29 (.tmp 2) (.tmp 39) rfl ?_);refine BL 29 (.tmp 2) (.tmp 39) (w.heap.size+1) cs cs 29 (by rw[hl];exact AE) rfl ho rfl rfl rfl rfl hb7 ?_;intro w8 hb8 k8 d8;have b38:=HB34.out.1.keep k8 (by omega);have b48:=HB34.out.2.keep k8 (by omega);have q3:w8.cell? ⟨w.heap.size+1+1,0,none⟩=some (.int .i64 0):=b38.cell 0;have q4:w8.cell? ⟨w.heap.size+1+1+1,0,none⟩=some (.int .i64 0):=b48.cell 0;have f3:=b38.frozen 0;have f4:=b48.frozen 0;have HR8:=V3 (V5 hb8 (V5 k8 (V5 b38 b48)));clear hb8 k8 d8 b38 b48));obtain⟨hb8,k8,b38,b48⟩:=HR8.out;have k9:AA (fun i=>i=w.heap.size+1+1∨i=w.heap.size+1+1+1) w8 ((w8.setCell ⟨w.heap.size+1+1,0,none⟩ (.int .i64 0)).setCell ⟨w.heap.size+1+1+1,0,none⟩ (.int .i64 0)):=VZ (p:=⟨w.heap.size+1+1+1,0,none⟩) (VZ (p:=⟨w.heap.size+1+1,0,none⟩) (VY _ w8) (.inl (.inl rfl)) _) (.inl (.inr rfl)) _;have b39:AR ((w8.setCell ⟨w.heap.size+1+1,0,none⟩ (.int .i64 0)).setCell ⟨w.heap.size+1+1+1,0,none⟩ (.int .i64 0)) (w.heap.size+1+1) 3 #[.int .i64 0]:=(b38.set_ 0 (.int .i64 0):AR _ _ _ _).far (p:=⟨w.heap.size+1+1+1,0,none⟩) (by show w.heap.size+1+1≠w.heap.size+1+1+1;omega) _;have b49:AR ((w8.setCell ⟨w.heap.size+1+1,0,none⟩ (.int .i64 0)).setCell ⟨w.heap.size+1+1+1,0,none⟩ (.int .i64 0)) (w.heap.size+1+1+1) 34 #[.int .i64 0]:=(b48.far (p:=⟨w.heap.size+1+1,0,none⟩) (by show w.heap.size+1+1+1≠w.heap.size+1+1;omega) _).set_ 0 (.int .i64 0);have hb9:=hb8.keep k9 (by omega);generalize (w8.setCell ⟨w.heap.size+1+1,0,none⟩ (.int .i64 0)).setCell ⟨w.heap.size+1+1+1,0,none⟩ (.int .i64 0)=w9 at*;have p3:w9.cell? ⟨w.heap.size+1+1,0,none⟩=some (.int .i64 0):=b39.cell 0;have p4:w9.cell? ⟨w.heap.size+1+1+1,0,none⟩=some (.int .i64 0):=b49.cell 0;refine leaves_cons (f:=97) (args:=#[.pointer (some ⟨w.heap.size,0,none⟩),.pointer (some ⟨w.heap.size+1,0,none⟩),.pointer (some ⟨w.heap.size+1+1,0,none⟩),.pointer (some ⟨w.heap.size+1+1+1,0,none⟩)]) (by simp) (by simp[go_sem]) ?_;refine(K4 _ _ _ _ _).mono ?_;rintro e u' w10 ⟨rfl,rfl,rfl⟩;have hld:=run_loadVar_mid (P:=Tryz.prog) w10 (w.heap.size+1) 0 29 cs _ (hb9.rangeN 0 cs (by simp)) Tryz.underlying29 rfl (by rw[hl];exact AE);have hl3:(loadVar 3 ⟨w.heap.size+1+1,0,none⟩).run Tryz.prog w10= .ok (.int .i64 0) w10:=by simp[go_sem,p3]
 have hl4:(loadVar 34 ⟨w.heap.size+1+1+1,0,none⟩).run Tryz.prog w10= .ok (.int .i64 0) w10:=by simp[go_sem,p4]
 simp only[Leaves,settle];refine⟨_,K1 rfl rfl rfl rfl hld hl3 hl4,?_⟩;have hs8:=k8.size;have hs9:=k9.size;have hs67:=HK7.out.size;have hr7:AZ w7 (DK 0 w4.heap.size w7.heap.size) t cs:=AZ.keep (S:=fun _=>False) (fun b hb=>⟨hb.2,fun h=>h,hb.1,by have:=hb.2;omega⟩) HK7.out _ _ HR66.out;have hk79:AA (fun i=>i=w.heap.size+1∨i=w.heap.size+1+1∨i=w.heap.size+1+1+1) w7 w10:=VV (AA.mono k8 fun i _ h=> .inl h) k9 fun i _ h=> .inr h
 exact⟨cs,rfl,AZ.keep (fun b hb=>⟨hb.2,fun h=>by have:=hb.1;omega,.inr (by have:=hb.1;omega),by have:=hb.2;omega⟩) hk79 _ _ hr7,VV (VV HH.out.2.2.2.2.2.1 HKK7.out fun i hi e=>by omega) hk79 fun i hi e=>by omega⟩
structure Jk (s u:ByteArray) (t:Ex):Prop where
 size:s.size≤2000
 parse:LH s=some t
 small:AH t≤200∧BN t≤12
 node:BW Bz t
 sok:Ey t
 valid:DP t=0
 node2:BW Bz (AW t)
 prn:BW SE (AW t)
 valid2:DP (AW t)=0
 len:0<(EZ (AW t)).length∧(EZ (AW t)).length≤2000
 text:bl u=EZ (AW t)
theorem EK {s u:ByteArray} {t:Ex} (H:Jk s u t) (w:World) (ht:Cy w):
  Calls Tryz.prog 35 #[.string s,.string u] w fun e' w'=>e'= .returned (.bool true)∧A4 w w':=by
 have hn:AH t≤1000000:=VD H.small.1 (by decide);have hn2:AH (AW t)≤1000000:=VD (Fh (AH t) t (V6 _) H.sok).2 hn;have HP:=V3 (Oj s t H.size H.parse H.small w ht);have HR:=V3 (fun w' cs (g:A4 w w') (h:BU w' w'.heap.size t cs)=>O9 t hn H.node H.sok H.valid H.node2 w' cs (ht.1.grew g) (ht.2.2.keep g (fun h=>h)) h);have HW:=V3 (fun w' cs (g:A4 w w') (h:BU w' w'.heap.size (AW t) cs)=>KN (AW t) hn2 H.node2 H.prn H.valid2 H.len (by rw[←H.text];exact Er _) w' cs (ht.1.grew g) (ht.2.2.keep g (fun h=>h)) h);have HU:=V3 H.text;clear H ht hn hn2;go_enter Tryz.func35,Tryz.ntmps35;go_upto_region 2 with(first|(go_at_call 66;(with_reducible refine HP.out.mono ?_);rintro e3 wa ⟨cs,rfl,hc,ka⟩;have hl:=hc.len;have ho:=Ap hc;have HC:=V3 hc;clear hc)|((with_reducible refine AG 29 (.tmp 5) (.tmp 13) rfl ?_);refine BL 29 (.tmp 5) (.tmp 13) (wa.heap.size) cs (AJ 0 0) 29 (by rw[hl];exact AE) (by rw[hl];rfl) ho rfl rfl rfl rfl (VW wa 29 _) ?_;intro wb hb5 k5 d5;have g5:A4 wa wb:=VV ((VU wa).alloc _) k5 (fun i hi e=>by omega)));have hsz:=g5.size;have HRw:=V3 (HR.out wb cs (ka.trans g5) (AZ.toB (Q:=DK 0 w.heap.size wa.heap.size) (fun b hb=>VA hb.2 hsz) t cs (HC.out.grewQ (fun b hb=>hb.2) g5)));have HGb:=V3 (ka.trans g5);clear ka g5 k5 d5 hsz ho;go_upto_region 3 with(first|((with_reducible refine AF 29 (.tmp 5) rfl ?_);refine BZ 29 Tryz.underlying29 rfl (.tmp 5) (wa.heap.size) cs 29 (by rw[hl];exact AE) rfl rfl rfl hb5 ?_)|(go_at_call 8;(with_reducible refine HRw.out.mono ?_);rintro e4 wc ⟨cs2,rfl,hc2,kc⟩;have HC2:=V3 (HW.out wc cs2 (HGb.out.trans kc) (AZ.toB (fun b hb=>hb.2) _ _ hc2));have HGc:=V3 (HGb.out.trans kc);clear hc2 kc)|(go_at_call 67;(with_reducible refine HC2.out.mono ?_);rintro e5 wd ⟨v,rfl,hv,kd⟩;obtain rfl:v=u:=Qd (hv.trans HU.out.symm);have HGd:=V3 (HGc.out.trans kd);clear hv kd));refine CY [(.int .i64 0),.bool true,.bool true,(.int .i64 0),.bool true,.bool true,.bool true,.string v,.string v,.bool true,.bool true,.bool true] _ (by kernel_rfl) (by kernel_rfl) rfl ?sH ?sT
 case sH=>
  simp only[List.toList_toArray,List.append_eq,List.cons_append,List.nil_append,Af,Act.put,List.setIfInBounds_toArray,List.set_cons_zero,List.set_cons_succ];refine AD (by kernel_rfl) (fun w' hg=>?_) ?_
  ·go_simp;exact VU _
  refine AD (by kernel_rfl) (fun w' hg=>?_) ?_
  ·go_simp;exact VU _
  refine AD (by kernel_rfl) (fun w' hg=>?_) ?_
  ·go_simp;exact VU _
  refine AD (by kernel_rfl) (fun w' hg=>?_) ?_
  ·go_simp;exact VU _
  refine AD (by kernel_rfl) (fun w' hg=>?_) ?_
  ·go_simp;exact VU _
  refine AD (by kernel_rfl) (fun w' hg=>?_) ?_
  ·go_simp;exact VU _
  refine AD (by kernel_rfl) (fun w' hg=>?_) ?_
  ·go_simp;exact VU _
  refine AD (by kernel_rfl) (fun w' hg=>?_) ?_
  ·go_simp;exact VU _
  refine AD (by kernel_rfl) (fun w' hg=>?_) ?_
  ·go_simp;exact VU _
  refine AD (by kernel_rfl) (fun w' hg=>?_) ?_
  ·go_simp;exact VU _
  refine AD (by kernel_rfl) (fun w' hg=>?_) ?_
  ·go_simp;exact VU _
  refine AD (by kernel_rfl) (fun w' hg=>?_) ?_
  ·go_simp;exact VU _
  exact AK
 case sT=>
  intro w9 hg9;simp only[List.toList_toArray,List.append_eq,List.cons_append,List.nil_append,Af,Act.put,List.setIfInBounds_toArray,List.set_cons_zero,List.set_cons_succ];go_wp2_with fail;go_ret;exact⟨rfl,HGd.out.trans hg9⟩
def Tz:ByteArray:=⟨#[97]⟩
def U3:ByteArray:=⟨#[98]⟩
theorem T3:Mk Tz:=⟨fun i h=>by
 have:i=0:=by have:Tz.size=1:=rfl;omega
 subst this;exact(show UInt8.toNat 97<128 by decide),by decide⟩
theorem Tj:Mk U3:=⟨fun i h=>by
 have:i=0:=by have:U3.size=1:=rfl;omega
 subst this;exact(show UInt8.toNat 98<128 by decide),by decide⟩
theorem IE {f wd:Nat} {nm:ByteArray} (hf:f<1000) (hw:wd<1000) (h:Mk nm):BW Bz (IK f wd nm):=by
 refine B3.2 ⟨⟨?_,h,(fun m hm=>nomatch hm),(fun m hm=>nomatch hm),Nat.zero_le _,Nat.zero_le _⟩,fun k hk=>nomatch hk⟩;show BI 1∧BI f∧BI wd∧BI 0∧BI 0∧BI 0∧BI 0;unfold BI;omega
theorem OM {x y:Int} (hx:BI x) (hy:BI y):BW Bz (BB x y):=by
 have z0:BI 0:=Cr.1;exact B3.2 ⟨⟨⟨z0,z0,z0,z0,z0,hx,hy⟩,Kh x y⟩,fun k hk=>nomatch hk⟩
theorem Ea {f:Int} {a b:Ex} (hf:0≤f∧f≤3) (ha:BW Bz a) (hb:BW Bz b):BW Bz (Ax f a b):=by
 refine B3.2 ⟨⟨?_,?_⟩,fun k hk=>?_⟩
 ·show BI 3∧BI f∧BI 0∧BI 0∧BI 0∧BI 0∧BI 0;unfold BI;omega
 ·exact⟨(Kh 0 0).1,(fun m hm=>nomatch hm),(fun m hm=>nomatch hm),Nat.zero_le _,Nat.zero_le _⟩
 rcases List.mem_cons.1 hk with rfl|hk
 ·exact ha
 obtain rfl:=VF.1 hk;exact hb
theorem Ko {f wd:Nat} {nm:ByteArray} (hf:f<1000) (hw:wd<1000) (hn:Lv nm []):Ey (IK f wd nm):=by
 refine B3.2 ⟨⟨⟨(IE hf hw hn.2.1.2.1).top.1,fun h=>nomatch h⟩,.inr (.inl (.inl ⟨rfl,hn⟩)),Nat.zero_le _,Nat.zero_le _⟩,fun k hk=>nomatch hk⟩
theorem FH {f:Int} {a b:Ex} (hf:0≤f∧f≤3) (ha:Ey a) (hb:Ey b):Ey (Ax f a b):=by
 refine B3.2 ⟨⟨⟨?_,fun _=>⟨rfl,hf⟩⟩,.inr (.inr ⟨rfl,a,b,rfl⟩),Nat.zero_le _,Nat.zero_le _⟩,fun k hk=>?_⟩
 ·show BI 3∧BI f∧BI 0∧BI 0∧BI 0∧BI 0∧BI 0;unfold BI;omega
 rcases List.mem_cons.1 hk with rfl|hk
 ·exact ha
 obtain rfl:=VF.1 hk;exact hb
theorem Jh {wd:Nat} {nm:ByteArray} (hn:nm.size≤1000):BW SE (IK 0 wd nm):=B3.2 ⟨.inr (.inl ⟨rfl,rfl,rfl,Jb,hn⟩),fun k hk=>nomatch hk⟩
theorem QD {n:Nat} (hn:n<10):BW SE (BB n 1):=B3.2 ⟨.inl ⟨rfl,rfl,n,hn,rfl⟩,fun k hk=>nomatch hk⟩
theorem NY {f:Nat} {a b:Ex} (hf:f<4) (ha:BW SE a) (hb:BW SE b):BW SE (Ax f a b):=by
 refine B3.2 ⟨.inr (.inr ⟨rfl,⟨f,hf,rfl⟩,a,b,rfl⟩),fun k hk=>?_⟩;rcases List.mem_cons.1 hk with rfl|hk
 ·exact ha
 obtain rfl:=VF.1 hk;exact hb
theorem Tf:Lv Tz []:=⟨by kernel_rfl,(IE (f:=0) (wd:=0) (by decide) (by decide) T3).top,by decide,by decide,Jb,by decide⟩
theorem UL:Lv U3 []:=⟨by kernel_rfl,(IE (f:=0) (wd:=0) (by decide) (by decide) Tj).top,by decide,by decide,Jb,by decide⟩
def eA:Ex:=IK 0 0 Tz
def eB:Ex:=IK 0 0 U3
def eM:Ex:=IK 4 3 Tz
theorem TB:BW Bz eA:=IE (by decide) (by decide) T3
theorem SF:BW Bz eB:=IE (by decide) (by decide) Tj
theorem UZ:BW Bz eM:=IE (by decide) (by decide) T3
theorem SJ:Ey eA:=Ko (by decide) (by decide) Tf
theorem TY:Ey eB:=Ko (by decide) (by decide) UL
theorem Tv:Ey eM:=Ko (by decide) (by decide) Tf
theorem f0:(0:Int)≤0∧(0:Int)≤3:=by decide
theorem f1:(0:Int)≤1∧(1:Int)≤3:=by decide
theorem f2:(0:Int)≤2∧(2:Int)≤3:=by decide
theorem PA {n:Nat} (h:n<100):BI n:=by unfold BI;omega
abbrev UF:ByteArray:=⟨#[40,97,43,97,46,109,101,97,110,40,51,41,41,45,97,46,109,101,97,110,40,51,41]⟩
abbrev Uj:ByteArray:=⟨#[40,97,43,98,41,45,98]⟩
abbrev Ur:ByteArray:=⟨#[97,45,97]⟩
abbrev Uu:ByteArray:=⟨#[49,43,50,42,51]⟩
abbrev Us:ByteArray:=⟨#[97]⟩
abbrev Uw:ByteArray:=⟨#[97,43,98,45,98]⟩
abbrev Ud:ByteArray:=⟨#[97,42,48]⟩
abbrev Um:ByteArray:=⟨#[55]⟩
theorem MW:AW (Ax 1 (Ax 0 eA eM) eM)=eA:=by kernel_rfl
theorem Lc:AW (Ax 1 (Ax 0 eA eB) eB)=Ax 1 (Ax 0 eA eB) eB:=by kernel_rfl
theorem Ld:AW (Ax 1 eA eA)=Ax 2 eA (BB 0 1):=by kernel_rfl
theorem LY:AW (Ax 0 (BB 1 1) (Ax 2 (BB 2 1) (BB 3 1)))=BB 7 1:=by kernel_rfl
theorem TW:Jk UF Us (Ax 1 (Ax 0 eA eM) eM) where
 size:=by decide
 parse:=by kernel_rfl
 small:=by decide
 node:=Ea f1 (Ea f0 TB UZ) UZ
 sok:=FH f1 (FH f0 SJ Tv) Tv
 valid:=by kernel_rfl
 node2:=by rw[MW];exact TB
 prn:=by rw[MW];exact Jh (by decide)
 valid2:=by rw[MW];kernel_rfl
 len:=by rw[MW];decide
 text:=by rw[MW];kernel_rfl
theorem Tu:Jk Uj Uw (Ax 1 (Ax 0 eA eB) eB) where
 size:=by decide
 parse:=by kernel_rfl
 small:=by decide
 node:=Ea f1 (Ea f0 TB SF) SF
 sok:=FH f1 (FH f0 SJ TY) TY
 valid:=by kernel_rfl
 node2:=by rw[Lc];exact Ea f1 (Ea f0 TB SF) SF
 prn:=by rw[Lc];exact NY (f:=1) (by decide) (NY (f:=0) (by decide) (Jh (by decide)) (Jh (by decide))) (Jh (by decide))
 valid2:=by rw[Lc];kernel_rfl
 len:=by rw[Lc];decide
 text:=by rw[Lc];kernel_rfl
theorem TV:Jk Ur Ud (Ax 1 eA eA) where
 size:=by decide
 parse:=by kernel_rfl
 small:=by decide
 node:=Ea f1 TB TB
 sok:=FH f1 SJ SJ
 valid:=by kernel_rfl
 node2:=by rw[Ld];exact Ea f2 TB (OM (PA (n:=0) (by decide)) (PA (n:=1) (by decide)))
 prn:=by rw[Ld];exact NY (f:=2) (by decide) (Jh (by decide)) (QD (n:=0) (by decide))
 valid2:=by rw[Ld];kernel_rfl
 len:=by rw[Ld];decide
 text:=by rw[Ld];kernel_rfl
theorem nn (n:Nat) (h:n<100):BW Bz (BB n 1):=OM (PA h) (PA (n:=1) (by decide))
theorem sn (n:Nat) (h:n<100):Ey (BB n 1):=Ik (PA h) (PA (n:=1) (by decide))
theorem TR:Jk Uu Um (Ax 0 (BB 1 1) (Ax 2 (BB 2 1) (BB 3 1))) where
 size:=by decide
 parse:=by kernel_rfl
 small:=by decide
 node:=Ea f0 (nn 1 (by decide)) (Ea f2 (nn 2 (by decide)) (nn 3 (by decide)))
 sok:=FH f0 (sn 1 (by decide)) (FH f2 (sn 2 (by decide)) (sn 3 (by decide)))
 valid:=by kernel_rfl
 node2:=by rw[LY];exact nn 7 (by decide)
 prn:=by rw[LY];exact QD (n:=7) (by decide)
 valid2:=by rw[LY];kernel_rfl
 len:=by rw[LY];decide
 text:=by rw[LY];kernel_rfl
theorem IV (w:World) (ht:Cy w):Calls Tryz.prog 16 #[] w fun e' w'=>e'= .returned (.bool true)∧A4 w w':=by
 have H1:=V3 (fun w' (g:A4 w w')=>EK TW w' ⟨ht.1.grew g,ht.2.1.keep g (fun h=>h),ht.2.2.keep g (fun h=>h)⟩);have H2:=V3 (fun w' (g:A4 w w')=>EK Tu w' ⟨ht.1.grew g,ht.2.1.keep g (fun h=>h),ht.2.2.keep g (fun h=>h)⟩);have H3:=V3 (fun w' (g:A4 w w')=>EK TV w' ⟨ht.1.grew g,ht.2.1.keep g (fun h=>h),ht.2.2.keep g (fun h=>h)⟩);have H4:=V3 (fun w' (g:A4 w w')=>EK TR w' ⟨ht.1.grew g,ht.2.1.keep g (fun h=>h),ht.2.2.keep g (fun h=>h)⟩);clear ht;go_enter Tryz.func16,Tryz.ntmps16;go_upto_region 1 with fail;refine CY [.bool true,.bool true,.bool true,.bool true,.bool true,.bool true,.bool true,.bool true,.bool true,.bool true,.bool true] _ (by kernel_rfl) (by kernel_rfl) rfl ?sH ?sT
 case sH=>
  simp only[List.toList_toArray,List.append_eq,List.cons_append,List.nil_append,Af,Act.put,List.setIfInBounds_toArray,List.set_cons_zero,List.set_cons_succ];refine AD (by kernel_rfl) (fun w' hg=>?_) ?_
  ·go_simp;(with_reducible refine((H1.out _ hg:Calls _ _ _ _ _)).mono ?_);rintro e wq ⟨rfl,kq⟩;exact⟨rfl,kq⟩
  refine AD (by kernel_rfl) (fun w' hg=>?_) ?_
  ·go_simp;exact VU _
  refine AD (by kernel_rfl) (fun w' hg=>?_) ?_
  ·go_simp;(with_reducible refine((H2.out _ hg:Calls _ _ _ _ _)).mono ?_);rintro e wq ⟨rfl,kq⟩;exact⟨rfl,kq⟩
  refine AD (by kernel_rfl) (fun w' hg=>?_) ?_
  ·go_simp;exact VU _
  refine AD (by kernel_rfl) (fun w' hg=>?_) ?_
  ·go_simp;exact VU _
  refine AD (by kernel_rfl) (fun w' hg=>?_) ?_
  ·go_simp;(with_reducible refine((H3.out _ hg:Calls _ _ _ _ _)).mono ?_);rintro e wq ⟨rfl,kq⟩;exact⟨rfl,kq⟩
  refine AD (by kernel_rfl) (fun w' hg=>?_) ?_
  ·go_simp;exact VU _
  refine AD (by kernel_rfl) (fun w' hg=>?_) ?_
  ·go_simp;exact VU _
  refine AD (by kernel_rfl) (fun w' hg=>?_) ?_
  ·go_simp;(with_reducible refine((H4.out _ hg:Calls _ _ _ _ _)).mono ?_);rintro e wq ⟨rfl,kq⟩;exact⟨rfl,kq⟩
  refine AD (by kernel_rfl) (fun w' hg=>?_) ?_
  ·go_simp;exact VU _
  refine AD (by kernel_rfl) (fun w' hg=>?_) ?_
  ·go_simp;exact VU _
  exact AK
 case sT=>
  intro w9 hg9;simp only[List.toList_toArray,List.append_eq,List.cons_append,List.nil_append,Af,Act.put,List.setIfInBounds_toArray,List.set_cons_zero,List.set_cons_succ];go_wp2_with fail;go_ret;exact⟨rfl,hg9⟩
end Go.Proofs.YthpflelgbadkcaaGreatDoor
