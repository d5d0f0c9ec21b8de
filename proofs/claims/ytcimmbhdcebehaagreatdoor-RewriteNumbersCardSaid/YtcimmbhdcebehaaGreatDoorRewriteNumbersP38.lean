/- What the card of the law stands on: LexD, ParG, Becm. -/
import Derived.Test.YtcimmbhdcebehaaGreatDoorRewriteNumbersP01
import Derived.Test.YtcimmbhdcebehaaGreatDoorRewriteNumbersP37
import Derived.Test.YtcimmbhdcebehaaGreatDoorRewriteNumbersP07
import Derived.Test.YtcimmbhdcebehaaGreatDoorRewriteNumbersP36
import Derived.Test.YtcimmbhdcebehaaGreatDoorRewriteNumbersP11
import Derived.Defers
import Derived.Recover
import Derived.RegionTactic
import Derived.BigRegion
set_option maxRecDepth 100000
set_option maxHeartbeats 12800000
set_option linter.unusedVariables false
set_option linter.unusedSimpArgs false
namespace Go.Proofs.YtcimmbhdcebehaaGreatDoor
open Go.RowKit Go.Shelf Pl
attribute [local go_sem] Oper.semAt_some
theorem slKI:SlR Tryz.prog 52 95 4 40 (.agg #[.int .i64 0,.string ⟨#[]⟩,.int .i64 0,.int .i64 0]):=⟨Tryz.underlying52,by kernel_rfl,rfl,by decide,by decide⟩
theorem Grew.others {W W':World} (h:Grew W W'):KeepsOthers W W':=⟨h.size,fun k o hk _=>(h.block k (Array.getElem?_eq_some_iff.1 hk).1 (fun h=>h)).trans hk⟩
def ToksPost (ts:List Tok) (w:World) (e:Ending) (w':World):Prop:=∃v,e= .returned (.tuple #[v,.int .i64 0,.int .i64 0])∧RdRQ w' (Two 0 w.heap.size w'.heap.size) 4 v (ts.map Tok.cells)∧Grew w w'
theorem TokI.abides {w0:World} {bt M:Nat} (hb:bt<M) (h0:w0.heap.size≤M):OwnFrom M (TokI w0 bt M):=by
 intro pre A B row h hg hr;obtain⟨v,hb1,hm,hgr⟩:=h;have hk:Keeps (fun i=>row=some i) A B:=⟨hg.os,hg.tape,hg.output,hg.size,fun i hi hn=>hg.block i hi fun e=>hn e.symm⟩;refine⟨v,hb1.keep hk (fun e=>by have:=(hr _ e).1;omega),hm.keep hk (fun i hi e=>?_),Keeps.then_ hgr hk fun i hi e=>by have:=(hr _ e).1;omega⟩;obtain⟨o,ho,hc⟩:=(hr _ e).2;rcases hm.form with⟨rfl, -⟩|⟨g,cap,cur,rfl, -,hbox, -⟩
 ·cases hi
 obtain rfl:g=i:=by simpa[Value.ownBlock]using hi
 unfold Box at hbox;rw[hbox]at ho;obtain rfl:=Option.some.inj ho;cases hc
theorem lexes_len {s:ByteArray}:∀{i:Nat} {ts:List Tok},Lexes s i ts→ts.length+i≤max s.size i:=by
 intro i ts h
 induction h with
 |stop h=>simp;omega
 |blank h1 _ _ ih=>omega
 |@tok i j t ts h1 hb ht _ ih=>
  have hj:i<j:=by
   by_cases hl:letC (chr s i)=true
   ·obtain⟨-, -,rfl⟩:=tokAt_word ht hl;exact runE_lt h1 (by unfold wrdC;rw[hl];rfl)
   by_cases hd:digC (chr s i)=true
   ·obtain⟨-, -,rfl⟩:=tokAt_number ht (by simpa using hl) hd;exact runE_lt h1 hd
   obtain⟨-,h2, -,rfl⟩:=tokAt_symbol ht (by simpa using hl) (by simpa using hd);have:=(symLen_le h1 h2).2;omega
  have hj2:j≤s.size:=by
   by_cases hl:letC (chr s i)=true
   ·obtain⟨-, -,rfl⟩:=tokAt_word ht hl;exact(runE_le _ _ (by omega)).2
   by_cases hd:digC (chr s i)=true
   ·obtain⟨-, -,rfl⟩:=tokAt_number ht (by simpa using hl) hd;exact(runE_le _ _ (by omega)).2
   obtain⟨-,h2, -,rfl⟩:=tokAt_symbol ht (by simpa using hl) (by simpa using hd);have:=(symLen_le h1 h2).1;omega
  simp only[List.length_cons];omega
theorem tokens_any (s:ByteArray) (ts:List Tok) (hs:s.size≤2000) (hlx:Lexes s 0 ts) (w:World):Calls Tryz.prog 24 #[.string s] w (ToksPost ts w):=by
 have hlen:ts.length≤2000:=by have:=lexes_len hlx;omega
 have t0:decide ((s.size:Int)>2000)=false:=by simp;omega
 refine(callsIn_wide (n:=5)).1 ?_;refine callsIn_of_wp_marks Tryz.func24 rfl trivial ?_ rfl;simp only[Tryz.ntmps24,List.size_toArray,List.length_cons,List.length_nil,Nat.reduceAdd,Nat.reduceSub,Array.replicate_succ,Array.replicate_zero,List.push_toArray,List.append_toArray,List.nil_append,List.cons_append];have HLX:=Lib.hid hlx;have HLN:=Lib.hid hlen;have HSZ:=Lib.hid hs;clear hlx hlen hs
 gi_wp2
 have hq0:Src6 ((w.alloc (.cells #[.string s,.int .i64 0,.int .i64 0] 92)).alloc (.cells #[.slice none 0 0] 52)) w.heap.size s 0 0:=(Box.new w 92 #[.string s,.int .i64 0,.int .i64 0]).alloc _;have hb0:=Box.new (w.alloc (.cells #[.string s,.int .i64 0,.int .i64 0] 92)) 52 #[.slice none 0 0];have hg0:Grew w ((w.alloc (.cells #[.string s,.int .i64 0,.int .i64 0] 92)).alloc (.cells #[.slice none 0 0] 52)):=((Grew.refl w).alloc _).alloc _;have hs0:((w.alloc (.cells #[.string s,.int .i64 0,.int .i64 0] 92)).alloc (.cells #[.slice none 0 0] 52)).heap.size=w.heap.size+2:=by simp
 rw[World.size_alloc]at hb0;generalize (w.alloc (.cells #[.string s,.int .i64 0,.int .i64 0] 92)).alloc (.cells #[.slice none 0 0] 52)=W0 at*;have hi0:TokI w (w.heap.size+1) W0.heap.size [] W0:=⟨_,hb0,⟨World.ownsRow_nil _ _ _ _,by intro r hr;cases hr⟩,hg0⟩;refine wpIn_range_boxed (F:=Fence.wide) (n:=5) (α:=Tok) rfl (by omega) (gf:=49) (fs:=#[.pointer (some ⟨w.heap.size,0,none⟩)]) (lb:=#[]) rfl trivial (enters_of Tryz.func49 (by kernel_rfl) rfl) (encs:=fun x=>#[.agg x.cells.toArray]) (fun _=>rfl) (fun pre x=>∃us,pre++x::us=ts)
  (TokI w (w.heap.size+1) W0.heap.size) (TokI.abides (by omega) (by omega)) hi0
  (fun x z=>{ tmps:=#[.string s,undef,.slice none 0 0,.int .i64 0,.int .i64 0,.pointer (some ⟨w.heap.size,0,none⟩),.pointer (some ⟨w.heap.size+1,0,none⟩),.pointer (some ⟨z,0,none⟩),.string s,.int .i64 (s.size:Nat),.bool false,.string s,.agg #[.string s,.int .i64 0,.int .i64 0],.pointer (some ⟨w.heap.size,0,none⟩),.pointer (some ⟨w.heap.size,0,none⟩),.func (.func 49) #[.pointer (some ⟨w.heap.size,0,none⟩)] #[],.agg x.cells.toArray,undef,undef,undef,undef,undef,undef,undef,undef,undef,undef,undef,undef,undef,undef,undef,undef,undef,undef],defers:=[] }) 95 (fun x=>x.cells.toArray)
  (TokS (w.heap.size+1)) ?hS (fun xs W=>xs=ts∧TokI w (w.heap.size+1) W0.heap.size xs W∧Src6 W w.heap.size s s.size 0) ?hR ?hseq ?assign ?body ?hSz ?done
 case hS=>
  intro W W' i hb hs;rcases hs with hs|⟨v,hv,ho⟩
  ·exact .inl hs
  exact .inr ⟨v,(World.cell?_of_block (a:=⟨w.heap.size+1,0,none⟩) (hb (w.heap.size+1) (by omega))).symm.trans hv,ho⟩
 case hR=>
  intro xs A B row h hg hr;have hk:Keeps (fun i=>row=some i) A B:=⟨hg.os,hg.tape,hg.output,hg.size,fun i hi hn=>hg.block i hi fun e=>hn e.symm⟩;exact⟨h.1,TokI.abides (by omega) (by omega) xs A B row h.2.1 hg hr,Box.keep h.2.2 hk fun e=>by have:=(hr _ e).1;omega⟩
 case hseq=>
  intro l oL oD W hl hoL hoD hI hG hY;refine(each_in l w.heap.size (w.heap.size+1) W0.heap.size w oL oD W0.heap.size s (by have:=HSZ.out;omega) ⟨Nat.le_refl _,by omega,by omega,Nat.le_refl _,hl⟩ ts HLX.out hY W (hq0.grew hG) hI hoL hoD).mono ?_;rintro e W' ⟨he,xs,h1,h2,h3⟩;exact⟨he,xs,h1,h2,h3⟩
 case hSz=>
  intro pre W z hI hs;have h1:=hI.choose_spec.1.lt;rcases tokS_lt hI rfl hs with h|h
  ·omega
  exact h.2
 case assign=>
  intro l x W K hK
  gi_wp2_with ((with_reducible refine at_storeI 95 (.tmp 7) (.tmp 16) rfl ?_);refine stN_in 95 (.tmp 7) (.tmp 16) W.heap.size x.cells [.int .i64 0,.string ⟨#[]⟩,.int .i64 0,.int .i64 0] 95 infoK rfl (tok_ones _ _ _ _) rfl rfl rfl rfl (Box.new W 95 _) ?_;intro w8 hb8 k8 d8)
  have hG:Grew W w8:=Keeps.then_ ((Grew.refl W).alloc _) k8 (fun i hi e=>by omega);exact hK w8 hG hG.others hb8
 case body=>
  rintro l pre x z W ⟨us,hus⟩ hI hbz hWl hlz hnz;obtain⟨v,hb,hm,hg⟩:=hI;have hpl:(pre.map Tok.cells).length<1099511627:=by
   have h1:=HLN.out;rw[←hus]at h1;simp at h1 ⊢;omega
  clear hus;obtain⟨tk,tt,tn,tf⟩:=x;have c0:W.cell? ⟨w.heap.size+1,0,none⟩=some v:=hb.cell 0;have f0:W.frozen? ⟨w.heap.size+1,0,none⟩=false:=hb.frozen 0;have z0:W.cell? ⟨z,0,none⟩=some (.int .i64 (tk:Nat)):=hbz.cell 0;have z1:W.cell? ⟨z,1,none⟩=some (.string tt):=hbz.cell 1;have z2:W.cell? ⟨z,2,none⟩=some (.int .i64 (tn:Nat)):=hbz.cell 2;have z3:W.cell? ⟨z,3,none⟩=some (.int .i64 (tf:Nat)):=hbz.cell 3;have HB:=Lib.hid (And.intro hb (And.intro hm hg));have hbs:W0.heap.size≤W.heap.size:=by have:=hbz.lt;omega
  clear hb hm hg hbz
  gi_wp2_with (gi_at_builtin;refine app_oneR_in slKI rfl (.tmp 17) (.tmp 19) rfl rfl (HB.out.2.1.keep ((Keeps.refl (fun _=>False) W).alloc _) (fun _ _ h=>h)) W.heap.size 1 (Tok.cells ⟨tk,tt,tn,tf⟩) 95 rfl (Nat.le_refl _) (Box.new W 95 _) rfl (tok_ones _ _ _ _) hpl (by simp;omega) ?_;intro r n' cap w1 hM1 hk1;have hgw:Grew W (W.alloc (.cells (Tok.cells ⟨tk,tt,tn,tf⟩).toArray 95)):=(Grew.refl W).alloc _;have hbx:=(HB.out.1.grew hgw).keep hk1 (fun e=>by have:=(HB.out.2.1.lt _ e).1;omega);have cx:w1.cell? ⟨w.heap.size+1,0,none⟩=some v:=hbx.cell 0;have fx:=hbx.frozen 0;have HX:=Lib.hid (And.intro hM1 (And.intro hk1 (And.intro hgw hbx)));clear hM1 hk1 hgw hbx)
  obtain⟨hM1,hk1,hgw,hbx⟩:=HX.out;have hb9:Box (w1.setCell ⟨w.heap.size+1,0,none⟩ (.slice (some ⟨r,0,none⟩) n' cap)) (w.heap.size+1) 52 #[.slice (some ⟨r,0,none⟩) n' cap]:=hbx.set_ 0 _;have hks:Keeps (fun b=>b=w.heap.size+1) w1 (w1.setCell ⟨w.heap.size+1,0,none⟩ (.slice (some ⟨r,0,none⟩) n' cap)):=Keeps.setCell (S:=fun b=>b=w.heap.size+1) (p:=⟨w.heap.size+1,0,none⟩) (Keeps.refl _ w1) (.inl rfl) _;have hk9:Keeps (TokS (w.heap.size+1) W) W (w1.setCell ⟨w.heap.size+1,0,none⟩ (.slice (some ⟨r,0,none⟩) n' cap)):=Keeps.then_ (Keeps.then_ hgw.keeps hk1 (fun i hi e=> .inr ⟨v,c0,e⟩)) hks (fun i hi e=> .inl e);refine⟨⟨hk9.size,fun k o hk ho=>?_⟩,hk9,?_⟩
  ·refine(hk9.block k (Array.getElem?_eq_some_iff.1 hk).1 fun hS=>?_).trans hk;rcases hS with rfl|⟨v',hv',ho'⟩
   ·have:=HB.out.1;unfold Box at this;rw[this]at hk;obtain rfl:=Option.some.inj hk;cases ho
   rw[c0]at hv';obtain rfl:=Option.some.inj hv';rcases HB.out.2.1.form with⟨rfl, -⟩|⟨g,cap',cur,rfl, -,hbox, -⟩
   ·cases ho'
   obtain rfl:g=k:=by simpa[Value.ownBlock]using ho'
   unfold Box at hbox;rw[hbox]at hk;obtain rfl:=Option.some.inj hk;cases ho
  refine⟨_,hb9,?_,Keeps.then_ HB.out.2.2 hk9 fun i hi hS=>?_⟩
  ·rw[List.map_append,←hs0];exact hM1.keep hks (fun i hi e=>by have:=(hM1.lt i hi).1;omega)
  rcases hS with h|⟨v',hv',ho'⟩
  ·omega
  rw[c0]at hv';obtain rfl:=Option.some.inj hv';have:=(HB.out.2.1.lt i ho').1;omega
 case done=>
  rintro xs W ⟨rfl,hti,hq⟩ hK;obtain⟨v,hb,hm,hg⟩:=hti;have c0:W.cell? ⟨w.heap.size+1,0,none⟩=some v:=hb.cell 0;have c2:W.cell? ⟨w.heap.size,2,none⟩=some (.int .i64 0):=hq.cell 2;have HB:=Lib.hid (And.intro hb (And.intro hm hg));clear hb hm hg hq
  gi_wp2
  refine⟨by simp,.inl ⟨_,_,rfl,run_takeDeferred hK,?_⟩⟩;obtain⟨v',hb',hm',hg'⟩:=OwnFrom.putObj (I:=TokI w (w.heap.size+1) W0.heap.size) (TokI.abides (by omega) (by omega)) (.deferred none) ⟨v,HB.out.1,HB.out.2.1,HB.out.2.2⟩ (Nat.le_refl _) hK rfl;have hv':v'=v:=by
   have h1:=hb'.cell 0;rw[World.cell?_of_block (a:=⟨w.heap.size+1,0,none⟩) (World.putObj_heap_other (by show w.heap.size+1≠W0.heap.size;omega)),c0]at h1;exact(Option.some.inj h1).symm
  subst hv';exact⟨.tuple #[v',.int .i64 0,.int .i64 0],by simp[results,Tryz.func24],v',rfl,hm'.own.keep (S:=fun _=>False) (fun b hb=>⟨(hm'.lt b hb).2,fun h=>h,.inr (by have:=(hm'.lt b hb).1;omega),(hm'.lt b hb).2⟩) (Grew.refl _),hg'⟩
end Go.Proofs.YtcimmbhdcebehaaGreatDoor
namespace Go.Proofs.YtcimmbhdcebehaaGreatDoor
open Go.RowKit Pl
theorem parsedef_idle (p1 p2 p3 p4:Value) (w:World):
  CallsD Tryz.prog 25 #[p1,p2,p3,p4] .returning w fun e u' w'=>u'= .returning∧(e= .returned (.tuple #[])∧w'=w):=by
 refine callsD_of_wpS Tryz.func25 rfl fun c₀ cs hu=>?_
 apply wpS_seq;apply wpS_region;simp[wpOpsS,go_sem,recoverD,hu,Tryz.ntmps25,Exit.thenS];apply wpS_seq;apply wpS_region;simp[wpOpsS,go_sem,recoverD,hu,Tryz.ntmps25,Exit.thenS];refine wpS_cond (t:=false) (by simp[Act.eval,Array.replicate]) ?_;simp only[Bool.false_eq_true,if_false];refine wpS_of_wp (wp_skip ?_);cases c₀;simp_all [bodyPostS,results,Tryz.results25]
def ParsePost (t:Ex) (w:World) (e:Ending) (w':World):Prop:=∃cs,e= .returned (.tuple #[.agg cs.toArray,.int .i64 0,.int .i64 0])∧RdEQ w' (Two 0 w.heap.size w'.heap.size) t cs∧Grew w w'
theorem parseP_some {s:ByteArray} {e:Ex} (h:parseP s=some e):∃ts,Lexes s 0 ts∧parP (4*ts.length+4) 0 ts=some (e,[]):=by
 unfold parseP at h;split at h
 ·cases h
 ·rename_i ts hl
  split at h
  ·rename_i e' hp
   obtain rfl:=Option.some.inj h;exact⟨ts,lexF_lexes _ _ _ hl,hp⟩
  cases h
theorem results_three {fn:Func} {p q r:Tmp} {ty t1 t2:TypeId} (h:fn.results=#[.cell p ty,.cell q t1,.cell r t2]) {tmps:Array Value} {w:World} {a b c:Addr} {v v1 v2:Value} (hp:tmps.getD p undef= .pointer (some a)) (hq:tmps.getD q undef= .pointer (some b)) (hr:tmps.getD r undef= .pointer (some c)) (hl:(loadVar ty a).run Tryz.prog w= .ok v w) (hl1:(loadVar t1 b).run Tryz.prog w= .ok v1 w) (hl2:(loadVar t2 c).run Tryz.prog w= .ok v2 w):
  (results fn tmps).run Tryz.prog w= .ok (.tuple #[v,v1,v2]) w:=by
 simp only[results,h];rw[Array.getD_eq_getD_getElem?]at hp hq hr
 first|(simp[hp,hq,hr,Result.andThen,hl,hl1,hl2,asAddr];done)|(simp[Sem.run_bind,hp,hq,hr,Result.andThen,hl,hl1,hl2,asAddr];done)|(simp only[Sem.run_bind];simp[hp,hq,hr,Result.andThen,hl,hl1,hl2,asAddr])
theorem RdRQ.slice3 {w:World} {Q:Nat→Prop} {sz:Nat} {v:Value} {rows:List (List Value)} (h:RdRQ w Q sz v rows):∃A n c,v= .slice A n c∧n=rows.length∧n≤c:=by
 obtain⟨A,c,rfl,hc, -⟩:=h;exact⟨A,_,c,rfl,rfl,hc⟩
theorem parse_any (s:ByteArray) (t:Ex) (hs:s.size≤2000) (hp:parseP s=some t) (hf:nodesE t≤200∧depthE t≤12) (w:World) (ht:PTab w):Calls Tryz.prog 8 #[.string s] w (ParsePost t w):=by
 have hmf:∀(fn:Fn) (first cap:Array Value) (w:World),(Instr.makeFunc fn first cap).run Tryz.prog w= .ok (.func fn first cap) w:=fun _ _ _ _=>rfl
 obtain⟨ts,hlx,hpp⟩:=parseP_some hp;have HTk:=Lib.hid (tokens_any s ts hs hlx);have hb1:=(((Box.new w 9 #[.string s]).alloc (.cells (numL 0 0).toArray 34)).alloc (.cells #[.int .i64 0] 3)).alloc (.cells #[.int .i64 0] 24);have hb2:=((Box.new (w.alloc (.cells #[.string s] 9)) 34 (numL 0 0).toArray).alloc (.cells #[.int .i64 0] 3)).alloc (.cells #[.int .i64 0] 24);have hb3:=(Box.new ((w.alloc (.cells #[.string s] 9)).alloc (.cells (numL 0 0).toArray 34)) 3 #[.int .i64 0]).alloc (.cells #[.int .i64 0] 24);have hb4:=Box.new (((w.alloc (.cells #[.string s] 9)).alloc (.cells (numL 0 0).toArray 34)).alloc (.cells #[.int .i64 0] 3)) 24 #[.int .i64 0];simp only[World.size_alloc]at hb1 hb2 hb3 hb4;have hG0:Grew w ((((w.alloc (.cells #[.string s] 9)).alloc (.cells (numL 0 0).toArray 34)).alloc (.cells #[.int .i64 0] 3)).alloc (.cells #[.int .i64 0] 24)):=((((Grew.refl w).alloc _).alloc _).alloc _).alloc _;have hs0:((((w.alloc (.cells #[.string s] 9)).alloc (.cells (numL 0 0).toArray 34)).alloc (.cells #[.int .i64 0] 3)).alloc (.cells #[.int .i64 0] 24)).heap.size=w.heap.size+4:=by simp
 have HPP:=Lib.hid hpp;have HFt:=Lib.hid hf;have HTb:=Lib.hid ht;have hlow:PLow w.heap.size:=⟨ht.1.1,ht.2.2.1,ht.2.1.1⟩;have HLow:=Lib.hid hlow;clear hs hp hlx hpp hf ht hlow;go_enter_defers Tryz.func8,Tryz.ntmps8;go_upto_region 1 with fail;change Code.wp _ _ _ _ ((((w.alloc (.cells #[.string s] 9)).alloc (.cells (numL 0 0).toArray 34)).alloc (.cells #[.int .i64 0] 3)).alloc (.cells #[.int .i64 0] 24));generalize (((w.alloc (.cells #[.string s] 9)).alloc (.cells (numL 0 0).toArray 34)).alloc (.cells #[.int .i64 0] 3)).alloc (.cells #[.int .i64 0] 24)=w1 at*;have HS:=Lib.hid hs0;have HB:=Lib.hid (And.intro hb1 (And.intro hb2 (And.intro hb3 hb4)));have c1:w1.cell? ⟨w.heap.size,0,none⟩=some (.string s):=hb1.cell 0;clear hs0 hb1 hb2 hb3 hb4;go_upto_region 2 with(go_at_call 24;(with_reducible refine(HTk.out w1).mono ?_);rintro e3 w2 ⟨v,rfl,hv,k2⟩;obtain⟨Av,mv,cv,rfl,hmv, -⟩:=hv.slice3;have b3:=HB.out.2.2.1.grew k2;have b4:=HB.out.2.2.2.grew k2;have a3:w2.cell? ⟨w.heap.size+2,0,none⟩=some (.int .i64 0):=b3.cell 0;have a4:w2.cell? ⟨w.heap.size+3,0,none⟩=some (.int .i64 0):=b4.cell 0;have f3:=b3.frozen 0;have f4:=b4.frozen 0;have HR2:=Lib.hid (And.intro hv (And.intro k2 (And.intro b3 b4)));clear hv k2 b3 b4);obtain rfl:mv=ts.length:=by rw[hmv,List.length_map]
 obtain⟨hv,k2,b3,b4⟩:=HR2.out;have k3:Keeps (fun i=>i=w.heap.size+1+1∨i=w.heap.size+1+1+1) w2 ((w2.setCell ⟨w.heap.size+1+1,0,none⟩ (.int .i64 0)).setCell ⟨w.heap.size+1+1+1,0,none⟩ (.int .i64 0)):=Keeps.setCell (p:=⟨w.heap.size+1+1+1,0,none⟩) (Keeps.setCell (p:=⟨w.heap.size+1+1,0,none⟩) (Keeps.refl _ w2) (.inl (.inl rfl)) _) (.inl (.inr rfl)) _;have b3':Box ((w2.setCell ⟨w.heap.size+1+1,0,none⟩ (.int .i64 0)).setCell ⟨w.heap.size+1+1+1,0,none⟩ (.int .i64 0)) (w.heap.size+1+1) 3 #[.int .i64 0]:=(b3.set_ 0 (.int .i64 0):Box _ _ _ _).far (p:=⟨w.heap.size+1+1+1,0,none⟩) (by show w.heap.size+1+1≠w.heap.size+1+1+1;omega) _;have b4':Box ((w2.setCell ⟨w.heap.size+1+1,0,none⟩ (.int .i64 0)).setCell ⟨w.heap.size+1+1+1,0,none⟩ (.int .i64 0)) (w.heap.size+1+1+1) 24 #[.int .i64 0]:=(b4.far (p:=⟨w.heap.size+1+1,0,none⟩) (by show w.heap.size+1+1+1≠w.heap.size+1+1;omega) _).set_ 0 (.int .i64 0);have hs2:=k2.size;have hS:=HS.out;have hb1:=(HB.out.1.grew k2).keep k3 (by omega);have hb2:=(HB.out.2.1.grew k2).keep k3 (by omega);have hk13:Keeps (fun i=>i=w.heap.size+1+1∨i=w.heap.size+1+1+1) w1 ((w2.setCell ⟨w.heap.size+1+1,0,none⟩ (.int .i64 0)).setCell ⟨w.heap.size+1+1+1,0,none⟩ (.int .i64 0)):=Keeps.then_ (Grew.keeps k2) k3 fun i _ h=>h
 have hg3:Grew w ((w2.setCell ⟨w.heap.size+1+1,0,none⟩ (.int .i64 0)).setCell ⟨w.heap.size+1+1+1,0,none⟩ (.int .i64 0)):=Keeps.then_ hG0 hk13 fun i hi e=>by omega
 have hrow:RdR ((w2.setCell ⟨w.heap.size+1+1,0,none⟩ (.int .i64 0)).setCell ⟨w.heap.size+1+1+1,0,none⟩ (.int .i64 0)) w2.heap.size 4 (.slice Av ts.length cv) (ts.map Tok.cells):=
  (hv.keep (Q':=Two 0 w1.heap.size w2.heap.size) (fun b hb=>⟨hb.2,fun h=>by have:=hb.1;omega,hb⟩) k3).toB fun b hb=>hb.2
 have hsz3:((w2.setCell ⟨w.heap.size+1+1,0,none⟩ (.int .i64 0)).setCell ⟨w.heap.size+1+1+1,0,none⟩ (.int .i64 0)).heap.size=w2.heap.size:=by simp
 generalize (w2.setCell ⟨w.heap.size+1+1,0,none⟩ (.int .i64 0)).setCell ⟨w.heap.size+1+1+1,0,none⟩ (.int .i64 0)=w3 at*;have HH:=Lib.hid (And.intro hb1 (And.intro hb2 (And.intro b3' (And.intro b4' (And.intro hk13 (And.intro hg3 (And.intro hrow hsz3)))))));have c4:w3.cell? ⟨w.heap.size+1+1+1,0,none⟩=some (.int .i64 0):=b4'.cell 0;have c1':w3.cell? ⟨w.heap.size,0,none⟩=some (.string s):=hb1.cell 0;clear hb1 hb2 b3' b4' hk13 hg3 hrow hsz3 hmv a3 a4 f3 f4 hv k2 b3 b4 k3 hs2 hS c1 HR2 HTk;go_upto_region 6 with fail;have hbp:=Box.new w3 60 #[.slice Av ts.length cv,.int .i64 (s.size:Nat)];have hg4:=(Grew.refl w3).alloc (.cells #[.slice Av ts.length cv,.int .i64 (s.size:Nat)] 60);have HPS:=Lib.hid (show PSt (w3.alloc (.cells #[.slice Av ts.length cv,.int .i64 (s.size:Nat)] 60)) w3.heap.size (s.size:Nat) ts from⟨Av,ts.length,cv,hbp,(HH.out.2.2.2.2.2.2.1.keep (B':=w3.heap.size) (by have:=HH.out.2.2.2.2.2.2.2;omega) (by have:=HH.out.2.2.2.2.2.2.2;omega) hg4 (fun _ _ h=>h)),rfl⟩);have HG4:=Lib.hid hg4;have hw4s:(w3.alloc (.cells #[.slice Av ts.length cv,.int .i64 (s.size:Nat)] 60)).heap.size=w3.heap.size+1:=by simp
 clear hbp hg4;obtain⟨w4,hw4⟩:∃w4,w3.alloc (.cells #[.slice Av ts.length cv,.int .i64 (s.size:Nat)] 60)=w4:=⟨_,rfl⟩;rw[hw4]at HPS HG4 hw4s ⊢;have HWS:=Lib.hid hw4s;have hlow3:PLow w3.heap.size:=by
  have h1:=HLow.out;have h2:=HH.out.2.2.2.2.2.1.size;exact⟨by have:=h1.1;omega,by have:=h1.2.1;omega,by have:=h1.2.2;omega⟩
 have HEx:=Lib.hid ((par_all w3.heap.size (s.size:Nat) hlow3 (4*ts.length+4) (4*ts.length+4) (Nat.le_refl _) ts t []).1 HPP.out w4 HPS.out ((HTb.out.keep HLow.out HH.out.2.2.2.2.2.1 (fun _ _ h=>h)).keep hlow3 HG4.out (fun _ _ h=>h)));have hb2:=HH.out.2.1.grew HG4.out;have hz3:=HH.out.2.1.lt;have HZ3:=Lib.hid (show w.heap.size+4≤w3.heap.size from by have:=HH.out.2.2.2.1.lt;omega);clear hw4s hw4 c4 c1' hlow3 hz3;go_upto_region 7 with(first|(go_at_call 26;(with_reducible refine HEx.out.mono ?_);rintro e3 w5 ⟨cs,rfl,hr5,hp5,hk5⟩;have h1l:=rdEQ_len hr5;have h1o:=cells11_one hr5;have hb25:=hb2.keep hk5 (by have:=HZ3.out;omega);have HR5:=Lib.hid (And.intro hr5 (And.intro hp5 (And.intro hk5 (And.intro h1l h1o))));clear hr5 hp5 hk5)|((with_reducible refine at_store 34 (.tmp 2) (.tmp 25) rfl ?_);refine stN 34 (.tmp 2) (.tmp 25) (w.heap.size+1) cs (numL 0 0) 34 (by rw[h1l];exact infoX) (by rw[h1l];rfl) h1o rfl rfl rfl rfl hb25 ?_;intro w6 hb6 k6 d6;have HR6:=Lib.hid (And.intro hb6 k6);clear k6 d6));have hz:=HZ3.out;obtain⟨A9,m9,c9,hb9, -,hm9⟩:=HR5.out.2.1;obtain rfl:m9=0:=hm9;have hb96:=hb9.keep HR6.out.2 (by omega);have cg:w6.cell? ⟨w3.heap.size,0,none⟩=some (.slice A9 0 c9):=hb96.cell 0;have hs4:=HG4.out.size;have hs5:=HR5.out.2.2.1.size;have hs6:=HR6.out.2.size;have hs3:=HWS.out;have hr6:RdEQ w6 (Two 0 w4.heap.size w6.heap.size) t cs:=RdEQ.keep (fun b hb=>⟨hb.2,fun h=>by have:=hb.1;omega,hb.1,by have:=hb.2;omega⟩) HR6.out.2 _ _ HR5.out.1;have hl:=HR5.out.2.2.2.1;have ho:=HR5.out.2.2.2.2;have hfit:decide (0≤cntE t 1 200)=true:=by
  rw[decide_eq_true_iff,fits_iff];have:=HFt.out;omega
 have HFi:=Lib.hid (fits_any t (by have:=HFt.out.1;omega) w6 cs (RdEQ.toB (fun b hb=>hb.2) _ _ hr6));rw[hfit]at HFi;have HR66:=Lib.hid hr6;have HKK:=Lib.hid (show Keeps (fun i=>i=w3.heap.size∨i=w.heap.size+1) w3 w6 from Keeps.then_ (Keeps.then_ (Grew.keeps HG4.out) HR5.out.2.2.1 fun i _ h=> .inl h) HR6.out.2 fun i _ h=> .inr h);clear hb9 hb96 hfit hr6;go_upto_region 11 with(first|((with_reducible refine at_load 34 (.tmp 2) rfl ?_);refine ldN 34 Tryz.underlying34 rfl (.tmp 2) (w.heap.size+1) cs 34 (by rw[hl];exact infoX) rfl rfl rfl hb6 ?_)|(go_at_call 28;(with_reducible refine HFi.out.mono ?_);rintro e3 w7 ⟨rfl,k7⟩;have hb7:=hb6.grew k7;have HK7:=Lib.hid k7;clear k7 cg));have hkk7:Keeps (fun i=>i=w3.heap.size∨i=w.heap.size+1) w3 w7:=Keeps.grew HKK.out HK7.out;have b3:=HH.out.2.2.1.keep hkk7 (by omega);have b4:=HH.out.2.2.2.1.keep hkk7 (by omega);have HKK7:=Lib.hid hkk7;have HB34:=Lib.hid (And.intro b3 b4);clear hkk7 b3 b4;go_wp2_with(first|((with_reducible refine at_load 34 (.tmp 2) rfl ?_);refine ldN 34 Tryz.underlying34 rfl (.tmp 2) (w.heap.size+1) cs 34 (by rw[hl];exact infoX) rfl rfl rfl hb7 ?_)|((with_reducible refine at_store 34 (.tmp 2) (.tmp 39) rfl ?_);refine stN 34 (.tmp 2) (.tmp 39) (w.heap.size+1) cs cs 34 (by rw[hl];exact infoX) rfl ho rfl rfl rfl rfl hb7 ?_;intro w8 hb8 k8 d8;have b38:=HB34.out.1.keep k8 (by omega);have b48:=HB34.out.2.keep k8 (by omega);have q3:w8.cell? ⟨w.heap.size+1+1,0,none⟩=some (.int .i64 0):=b38.cell 0;have q4:w8.cell? ⟨w.heap.size+1+1+1,0,none⟩=some (.int .i64 0):=b48.cell 0;have f3:=b38.frozen 0;have f4:=b48.frozen 0;have HR8:=Lib.hid (And.intro hb8 (And.intro k8 (And.intro b38 b48)));clear hb8 k8 d8 b38 b48));obtain⟨hb8,k8,b38,b48⟩:=HR8.out;have k9:Keeps (fun i=>i=w.heap.size+1+1∨i=w.heap.size+1+1+1) w8 ((w8.setCell ⟨w.heap.size+1+1,0,none⟩ (.int .i64 0)).setCell ⟨w.heap.size+1+1+1,0,none⟩ (.int .i64 0)):=Keeps.setCell (p:=⟨w.heap.size+1+1+1,0,none⟩) (Keeps.setCell (p:=⟨w.heap.size+1+1,0,none⟩) (Keeps.refl _ w8) (.inl (.inl rfl)) _) (.inl (.inr rfl)) _;have b39:Box ((w8.setCell ⟨w.heap.size+1+1,0,none⟩ (.int .i64 0)).setCell ⟨w.heap.size+1+1+1,0,none⟩ (.int .i64 0)) (w.heap.size+1+1) 3 #[.int .i64 0]:=(b38.set_ 0 (.int .i64 0):Box _ _ _ _).far (p:=⟨w.heap.size+1+1+1,0,none⟩) (by show w.heap.size+1+1≠w.heap.size+1+1+1;omega) _;have b49:Box ((w8.setCell ⟨w.heap.size+1+1,0,none⟩ (.int .i64 0)).setCell ⟨w.heap.size+1+1+1,0,none⟩ (.int .i64 0)) (w.heap.size+1+1+1) 24 #[.int .i64 0]:=(b48.far (p:=⟨w.heap.size+1+1,0,none⟩) (by show w.heap.size+1+1+1≠w.heap.size+1+1;omega) _).set_ 0 (.int .i64 0);have hb9:=hb8.keep k9 (by omega);generalize (w8.setCell ⟨w.heap.size+1+1,0,none⟩ (.int .i64 0)).setCell ⟨w.heap.size+1+1+1,0,none⟩ (.int .i64 0)=w9 at*;have p3:w9.cell? ⟨w.heap.size+1+1,0,none⟩=some (.int .i64 0):=b39.cell 0;have p4:w9.cell? ⟨w.heap.size+1+1+1,0,none⟩=some (.int .i64 0):=b49.cell 0;refine leaves_cons (f:=25) (args:=#[.pointer (some ⟨w.heap.size,0,none⟩),.pointer (some ⟨w.heap.size+1,0,none⟩),.pointer (some ⟨w.heap.size+1+1,0,none⟩),.pointer (some ⟨w.heap.size+1+1+1,0,none⟩)]) (by simp) (by simp[go_sem]) ?_;refine(parsedef_idle _ _ _ _ _).mono ?_;rintro e u' w10 ⟨rfl,rfl,rfl⟩;have hld:=run_loadVar_mid (P:=Tryz.prog) w10 (w.heap.size+1) 0 34 cs _ (hb9.rangeN 0 cs (by simp)) Tryz.underlying34 rfl (by rw[hl];exact infoX);have hl3:(loadVar 3 ⟨w.heap.size+1+1,0,none⟩).run Tryz.prog w10= .ok (.int .i64 0) w10:=by simp[go_sem,p3]
 have hl4:(loadVar 24 ⟨w.heap.size+1+1+1,0,none⟩).run Tryz.prog w10= .ok (.int .i64 0) w10:=by simp[go_sem,p4]
 simp only[Leaves,settle];refine⟨_,results_three rfl rfl rfl rfl hld hl3 hl4,?_⟩;have hs8:=k8.size;have hs9:=k9.size;have hs67:=HK7.out.size;have hr7:RdEQ w7 (Two 0 w4.heap.size w7.heap.size) t cs:=RdEQ.keep (S:=fun _=>False) (fun b hb=>⟨hb.2,fun h=>h,hb.1,by have:=hb.2;omega⟩) HK7.out _ _ HR66.out;have hk79:Keeps (fun i=>i=w.heap.size+1∨i=w.heap.size+1+1∨i=w.heap.size+1+1+1) w7 w10:=Keeps.then_ (Keeps.mono k8 fun i _ h=> .inl h) k9 fun i _ h=> .inr h
 exact⟨cs,rfl,RdEQ.keep (fun b hb=>⟨hb.2,fun h=>by have:=hb.1;omega,.inr (by have:=hb.1;omega),by have:=hb.2;omega⟩) hk79 _ _ hr7,Keeps.then_ (Keeps.then_ HH.out.2.2.2.2.2.1 HKK7.out fun i hi e=>by omega) hk79 fun i hi e=>by omega⟩
structure LifeOk (s u:ByteArray) (t:Ex):Prop where
 size:s.size≤2000
 parse:parseP s=some t
 small:nodesE t≤200∧depthE t≤12
 node:AllE NodeOk t
 sok:SOk t
 valid:validE t=0
 node2:AllE NodeOk (simpE t)
 prn:AllE PrN (simpE t)
 valid2:validE (simpE t)=0
 len:0<(prE (simpE t)).length∧(prE (simpE t)).length≤2000
 text:bl u=prE (simpE t)
theorem becomes_any {s u:ByteArray} {t:Ex} (H:LifeOk s u t) (w:World) (ht:PTab w):
  Calls Tryz.prog 41 #[.string s,.string u] w fun e' w'=>e'= .returned (.bool true)∧Grew w w':=by
 have hn:nodesE t≤1000000:=Nat.le_trans H.small.1 (by decide);have hn2:nodesE (simpE t)≤1000000:=Nat.le_trans (sok_simp (nodesE t) t (Nat.le_refl _) H.sok).2 hn;have HP:=Lib.hid (parse_any s t H.size H.parse H.small w ht);have HR:=Lib.hid (fun w' cs (g:Grew w w') (h:RdE w' w'.heap.size t cs)=>rew_any t hn H.node H.sok H.valid H.node2 w' cs (ht.1.grew g) (ht.2.2.keep g (fun h=>h)) h);have HW:=Lib.hid (fun w' cs (g:Grew w w') (h:RdE w' w'.heap.size (simpE t) cs)=>print_any (simpE t) hn2 H.node2 H.prn H.valid2 H.len (by rw[←H.text];exact bl_bytes _) w' cs (ht.1.grew g) (ht.2.2.keep g (fun h=>h)) h);have HU:=Lib.hid H.text;clear H ht hn hn2;go_enter Tryz.func41,Tryz.ntmps41;go_upto_region 2 with(first|(go_at_call 8;(with_reducible refine HP.out.mono ?_);rintro e3 wa ⟨cs,rfl,hc,ka⟩;have hl:=hc.len;have ho:=cells11_one hc;have HC:=Lib.hid hc;clear hc)|((with_reducible refine at_store 34 (.tmp 5) (.tmp 13) rfl ?_);refine stN 34 (.tmp 5) (.tmp 13) (wa.heap.size) cs (numL 0 0) 34 (by rw[hl];exact infoX) (by rw[hl];rfl) ho rfl rfl rfl rfl (Box.new wa 34 _) ?_;intro wb hb5 k5 d5;have g5:Grew wa wb:=Keeps.then_ ((Grew.refl wa).alloc _) k5 (fun i hi e=>by omega)));have hsz:=g5.size;have HRw:=Lib.hid (HR.out wb cs (ka.trans g5) (RdEQ.toB (Q:=Two 0 w.heap.size wa.heap.size) (fun b hb=>Nat.lt_of_lt_of_le hb.2 hsz) t cs (HC.out.grewQ (fun b hb=>hb.2) g5)));have HGb:=Lib.hid (ka.trans g5);clear ka g5 k5 d5 hsz ho;go_upto_region 3 with(first|((with_reducible refine at_load 34 (.tmp 5) rfl ?_);refine ldN 34 Tryz.underlying34 rfl (.tmp 5) (wa.heap.size) cs 34 (by rw[hl];exact infoX) rfl rfl rfl hb5 ?_)|(go_at_call 15;(with_reducible refine HRw.out.mono ?_);rintro e4 wc ⟨cs2,rfl,hc2,kc⟩;have HC2:=Lib.hid (HW.out wc cs2 (HGb.out.trans kc) (RdEQ.toB (fun b hb=>hb.2) _ _ hc2));have HGc:=Lib.hid (HGb.out.trans kc);clear hc2 kc)|(go_at_call 7;(with_reducible refine HC2.out.mono ?_);rintro e5 wd ⟨v,rfl,hv,kd⟩;obtain rfl:v=u:=bl_inj (hv.trans HU.out.symm);have HGd:=Lib.hid (HGc.out.trans kd);clear hv kd));refine region_seqG [(.int .i64 0),.bool true,.bool true,(.int .i64 0),.bool true,.bool true,.bool true,.string v,.string v,.bool true,.bool true,.bool true] _ (by kernel_rfl) (by kernel_rfl) rfl ?sH ?sT
 case sH=>
  simp only[List.toList_toArray,List.append_eq,List.cons_append,List.nil_append,putAll,Act.put,List.setIfInBounds_toArray,List.set_cons_zero,List.set_cons_succ];refine headG_run (by kernel_rfl) (fun w' hg=>?_) ?_
  ·go_simp;exact Grew.refl _
  refine headG_run (by kernel_rfl) (fun w' hg=>?_) ?_
  ·go_simp;exact Grew.refl _
  refine headG_run (by kernel_rfl) (fun w' hg=>?_) ?_
  ·go_simp;exact Grew.refl _
  refine headG_run (by kernel_rfl) (fun w' hg=>?_) ?_
  ·go_simp;exact Grew.refl _
  refine headG_run (by kernel_rfl) (fun w' hg=>?_) ?_
  ·go_simp;exact Grew.refl _
  refine headG_run (by kernel_rfl) (fun w' hg=>?_) ?_
  ·go_simp;exact Grew.refl _
  refine headG_run (by kernel_rfl) (fun w' hg=>?_) ?_
  ·go_simp;exact Grew.refl _
  refine headG_run (by kernel_rfl) (fun w' hg=>?_) ?_
  ·go_simp;exact Grew.refl _
  refine headG_run (by kernel_rfl) (fun w' hg=>?_) ?_
  ·go_simp;exact Grew.refl _
  refine headG_run (by kernel_rfl) (fun w' hg=>?_) ?_
  ·go_simp;exact Grew.refl _
  refine headG_run (by kernel_rfl) (fun w' hg=>?_) ?_
  ·go_simp;exact Grew.refl _
  refine headG_run (by kernel_rfl) (fun w' hg=>?_) ?_
  ·go_simp;exact Grew.refl _
  exact headG_nil
 case sT=>
  intro w9 hg9;simp only[List.toList_toArray,List.append_eq,List.cons_append,List.nil_append,putAll,Act.put,List.setIfInBounds_toArray,List.set_cons_zero,List.set_cons_succ];go_wp2_with fail;go_ret;exact⟨rfl,HGd.out.trans hg9⟩
end Go.Proofs.YtcimmbhdcebehaaGreatDoor
