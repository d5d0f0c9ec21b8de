/- What the card of the law stands on: Rw1, Rw2, Rw3. -/
import Derived.Test.YtcimmbhdcebehaaGreatDoorRewriteNumbersP01
import Derived.Test.YtcimmbhdcebehaaGreatDoorRewriteNumbersP23
import Derived.Test.YtcimmbhdcebehaaGreatDoorRewriteNumbersP25
import Derived.Test.YtcimmbhdcebehaaGreatDoorRewriteNumbersP07
set_option maxRecDepth 100000
set_option maxHeartbeats 12800000
set_option linter.unusedVariables false
set_option linter.unusedSimpArgs false
namespace Go.Proofs.YtcimmbhdcebehaaGreatDoor
open Go.RowKit Pl
def isE (e:Ex) (n:Int):Bool:=decide (e.kind=0∧e.num=n∧e.den=1)
theorem build24_run (a b:Int) (w:World):(Instr.build 23 #[(0,.int .i64 a),(1,.int .i64 b)]).run Tryz.prog w= .ok (.agg (fracL a b).toArray) w:=by kernel_rfl
theorem ris_any (e:Ex) (n:Int) (cs:List Value) (w:World) (B:Nat) (hr:RdE w B e cs):Calls Tryz.prog 81 #[.agg cs.toArray,.int .i64 n] w fun e' w'=>e'= .returned (.bool (isE e n))∧Grew w w':=by
 obtain⟨vm,vb,vk,rfl, -⟩:=hr.open_;have hb:=Box.new w 34 (cells11 e vm vb vk).toArray;have hg:=(Grew.refl w).alloc (.cells (cells11 e vm vb vk).toArray 34);clear hr;go_enter Tryz.func81,Tryz.ntmps81;go_upto_region 1 with fail;change Code.wp _ _ _ _ (w.alloc (.cells (cells11 e vm vb vk).toArray 34));generalize w.alloc (.cells (cells11 e vm vb vk).toArray 34)=w1 at*;have c0:w1.cell? ⟨w.heap.size,0,none⟩=some (.int .i64 e.kind):=hb.cell 0;have r1:w1.rangeAt w.heap.size 5 (fracL e.num e.den):=hb.rangeN 5 _ rfl;have HG:=Lib.hid hg;clear hb hg;by_cases h0:e.kind=0
 ·have t0:(e.kind==0)=true:=by rw[beq_iff_eq];exact h0
  obtain⟨r,hr⟩:∃r:Bool,decide (e.num=n∧e.den=1)=r:=⟨_,rfl⟩;have HF:=Lib.hid (show isE e n=r from by unfold isE;rw[←hr];simp[h0]);have t5:∀w,(binOp .eql 23 (.agg (fracL e.num e.den).toArray) (.agg #[.int .i64 n,.int .i64 1])).run Tryz.prog w= .ok (.bool r) w:=fun w=>fracEq_run e.num e.den n 1 r hr w
  have hbd:=fun w=>build24_run n 1 w
  clear h0 hr;go_wp2_with(first|((with_reducible refine at_load 23 (.tmp 9) rfl ?_);refine ldO 23 (.tmp 9) rfl rfl Tryz.underlying23 rfl (w.heap.size) 5 (fracL e.num e.den) infoF rfl r1 ?_));go_ret;exact⟨by rw[HF.out];rfl,HG.out⟩
 have t0:(e.kind==0)=false:=by rw[beq_eq_false_iff_ne];exact h0
 have HF:=Lib.hid (show isE e n=false from by unfold isE;simp[h0]);clear h0;go_wp2_with fail;go_ret;exact⟨by rw[HF.out];rfl,HG.out⟩
theorem results_four {fn:Func} {p q r:Tmp} {ty:TypeId} (h:fn.results=#[.cell p ty,.cell q ty,.tmp r]) {tmps:Array Value} {w:World} {a b:Nat} {xs ys:List Value} {v:Value} {t:TypeId} (hp:tmps.getD p undef= .pointer (some ⟨a,0,none⟩)) (hq:tmps.getD q undef= .pointer (some ⟨b,0,none⟩)) (hr:tmps.getD r undef=v)
  (hT:(Tryz.prog.info? ty).map (·.size)=some xs.length) (hT2:(Tryz.prog.info? ty).map (·.size)=some ys.length) {d:TypeDesc} (hu:Tryz.prog.underlying ty=some d) (hd:d.isRow=true) (ha:Box w a t xs.toArray) (hb:Box w b t ys.toArray):
  (results fn tmps).run Tryz.prog w= .ok (.tuple #[.agg xs.toArray,.agg ys.toArray,v]) w:=by
 have hl:=run_loadVar_mid (P:=Tryz.prog) w a 0 ty xs d (ha.rangeN 0 xs (by simp)) hu hd hT;have hl2:=run_loadVar_mid (P:=Tryz.prog) w b 0 ty ys d (hb.rangeN 0 ys (by simp)) hu hd hT2;simp only[results,h];rw[Array.getD_eq_getD_getElem?]at hp hq hr
 first|(simp[hp,hq,hr,Result.andThen,hl,hl2,asAddr];done)|(simp[Sem.run_bind,hp,hq,hr,Result.andThen,hl,hl2,asAddr];done)|(simp only[Sem.run_bind];simp[hp,hq,hr,Result.andThen,hl,hl2,asAddr])
theorem parts_no (e:Ex) (f:Int) (cs:List Value) (w:World) (B:Nat) (hr:RdE w B e cs) (hn:¬(e.kind=3∧e.fn=f)):Calls Tryz.prog 85 #[.agg cs.toArray,.int .i64 f] w fun e' w'=>e'= .returned (.tuple #[.agg (numL 0 0).toArray,.agg (numL 0 0).toArray,.bool false])∧Grew w w':=by
 obtain⟨vm,vb,vk,rfl, -⟩:=hr.open_;obtain⟨hb1,hb2,hb3,hG⟩:=boxes3 w 34 34 34 (cells11 e vm vb vk).toArray (numL 0 0).toArray (numL 0 0).toArray;clear hr;go_enter Tryz.func85,Tryz.ntmps85;go_upto_region 1 with fail;change Code.wp _ _ _ _ (((w.alloc (.cells (cells11 e vm vb vk).toArray 34)).alloc (.cells (numL 0 0).toArray 34)).alloc (.cells (numL 0 0).toArray 34));generalize ((w.alloc (.cells (cells11 e vm vb vk).toArray 34)).alloc (.cells (numL 0 0).toArray 34)).alloc (.cells (numL 0 0).toArray 34)=w1 at*;have c0:w1.cell? ⟨w.heap.size,0,none⟩=some (.int .i64 e.kind):=hb1.cell 0;have c1:w1.cell? ⟨w.heap.size,1,none⟩=some (.int .i64 e.fn):=hb1.cell 1;have HG:=Lib.hid hG;clear hb1 hG;by_cases h3:e.kind=3
 ·have t0:(e.kind==3)=true:=by rw[beq_iff_eq];exact h3
  have t0':(e.kind !=3)=false:=by rw[bne,t0];rfl
  have t1:(e.fn==f)=false:=by rw[beq_eq_false_iff_ne];exact fun h=>hn ⟨h3,h⟩
  have t1':(e.fn !=f)=true:=by rw[bne,t1];rfl
  clear h3 hn;go_wp2_with(first|((with_reducible refine at_store 34 (.tmp 4) (.tmp 16) rfl ?_);refine stN 34 (.tmp 4) (.tmp 16) (w.heap.size+1) (numL 0 0) (numL 0 0) 34 infoX rfl (numL_ones _ _) rfl rfl rfl rfl hb2 ?_;intro w8 hb8 k8 d8;have hb38:=hb3.keep k8 (by omega))|((with_reducible refine at_store 34 (.tmp 5) (.tmp 17) rfl ?_);refine stN 34 (.tmp 5) (.tmp 17) (w.heap.size+1+1) (numL 0 0) (numL 0 0) 34 infoX rfl (numL_ones _ _) rfl rfl rfl rfl hb38 ?_;intro w9 hb9 k9 d9;have hb89:=hb8.keep k9 (by omega)));refine bodyPost_ret (results_four rfl rfl rfl rfl infoX infoX Tryz.underlying34 rfl hb89 hb9) rfl ?_;exact⟨rfl,Keeps.then_ (Keeps.then_ HG.out k8 fun i hi e=>by omega) k9 fun i hi e=>by omega⟩
 have t0:(e.kind==3)=false:=by rw[beq_eq_false_iff_ne];exact h3
 have t0':(e.kind !=3)=true:=by rw[bne,t0];rfl
 clear h3 hn;go_wp2_with(first|((with_reducible refine at_store 34 (.tmp 4) (.tmp 16) rfl ?_);refine stN 34 (.tmp 4) (.tmp 16) (w.heap.size+1) (numL 0 0) (numL 0 0) 34 infoX rfl (numL_ones _ _) rfl rfl rfl rfl hb2 ?_;intro w8 hb8 k8 d8;have hb38:=hb3.keep k8 (by omega))|((with_reducible refine at_store 34 (.tmp 5) (.tmp 17) rfl ?_);refine stN 34 (.tmp 5) (.tmp 17) (w.heap.size+1+1) (numL 0 0) (numL 0 0) 34 infoX rfl (numL_ones _ _) rfl rfl rfl rfl hb38 ?_;intro w9 hb9 k9 d9;have hb89:=hb8.keep k9 (by omega)));refine bodyPost_ret (results_four rfl rfl rfl rfl infoX infoX Tryz.underlying34 rfl hb89 hb9) rfl ?_;exact⟨rfl,Keeps.then_ (Keeps.then_ HG.out k8 fun i hi e=>by omega) k9 fun i hi e=>by omega⟩
theorem parts_yes (e:Ex) (f:Int) (vm vb:Value) (b o c:Nat) (ca cb:List Value) (w:World) (h3:e.kind=3) (hf:e.fn=f) (hbw:b<w.heap.size) (hra:w.rangeAt b o ca) (hrb:w.rangeAt b (o+11) cb) (hla:ca.length=11) (hlb:cb.length=11) (hoa:∀v∈ca,v.oneCell'=true) (hob:∀v∈cb,v.oneCell'=true):
  Calls Tryz.prog 85 #[.agg (cells11 e vm vb (.slice (some ⟨b,o,none⟩) 2 c)).toArray,.int .i64 f] w fun e' w'=>e'= .returned (.tuple #[.agg ca.toArray,.agg cb.toArray,.bool true])∧Grew w w':=by
 obtain⟨hb1,hb2,hb3,hG⟩:=boxes3 w 34 34 34 (cells11 e vm vb (.slice (some ⟨b,o,none⟩) 2 c)).toArray (numL 0 0).toArray (numL 0 0).toArray;have hs3:(((w.alloc (.cells (cells11 e vm vb (.slice (some ⟨b,o,none⟩) 2 c)).toArray 34)).alloc (.cells (numL 0 0).toArray 34)).alloc (.cells (numL 0 0).toArray 34)).heap.size=w.heap.size+3:=by simp
 go_enter Tryz.func85,Tryz.ntmps85;go_upto_region 1 with fail;change Code.wp _ _ _ _ (((w.alloc (.cells (cells11 e vm vb (.slice (some ⟨b,o,none⟩) 2 c)).toArray 34)).alloc (.cells (numL 0 0).toArray 34)).alloc (.cells (numL 0 0).toArray 34));generalize ((w.alloc (.cells (cells11 e vm vb (.slice (some ⟨b,o,none⟩) 2 c)).toArray 34)).alloc (.cells (numL 0 0).toArray 34)).alloc (.cells (numL 0 0).toArray 34)=w1 at*;have c0:w1.cell? ⟨w.heap.size,0,none⟩=some (.int .i64 3):=by rw[←h3];exact hb1.cell 0
 have c1:w1.cell? ⟨w.heap.size,1,none⟩=some (.int .i64 f):=by rw[←hf];exact hb1.cell 1
 have t1:(f==f)=true:=by simp
 have t1':(f !=f)=false:=by rw[bne,t1];rfl
 have HS:=Lib.hid hs3;have HB:=Lib.hid (And.intro hb1 (And.intro hb2 (And.intro hb3 hG)));have HA:=Lib.hid (show ∀w',Keeps (fun i=>i=w.heap.size+1∨i=w.heap.size+1+1) w1 w'→w'.cell? ⟨w.heap.size,10,none⟩=some (.slice (some ⟨b,o,none⟩) 2 c)∧w'.rangeAt b o ca∧w'.rangeAt b (o+11) cb from fun w' k=>⟨(hb1.keep k (by omega)).cell 10,rangeAt_keep (rangeAt_keep hra hbw hG (fun h=>h)) (by omega) k (by omega),rangeAt_keep (rangeAt_keep hrb hbw hG (fun h=>h)) (by omega) k (by omega)⟩);clear hb1 hb2 hb3 hG hs3 hra hrb hbw h3 hf;go_upto_region 3 with fail;refine late_region [(9,fun w'=>w'.cell? ⟨w.heap.size,10,none⟩=some (.slice (some ⟨b,o,none⟩) 2 c)∧w'.rangeAt b o ca∧w'.rangeAt b (o+11) cb)] (by kernel_rfl) (by intro pp hp;obtain rfl:=List.mem_singleton.1 hp;exact HA.out _ (Keeps.drew (Keeps.refl _ w1))) ?_;intro hcl hkn
 refine' take_pure (i:=0) (v:=_) rfl (by kernel_rfl) (by kernel_rfl) (by kernel_rfl) hcl hkn (by rfl) (fun _ _ _ h=>h) rfl ?_ ?_
 rotate_left
 ·intro w';go_simp;try with_reducible rfl
 clear hcl hkn;intro hcl hkn
 try simp only[List.getElem_toArray,List.getElem_cons_zero,List.getElem_cons_succ,Act.put,List.setIfInBounds_toArray,List.set_cons_zero,List.set_cons_succ]
 refine' take_load 9 _ (i:=1) (v:=_) rfl (by kernel_rfl) (by kernel_rfl) (by kernel_rfl) hcl hkn (by rfl) 0 rfl (by kernel_rfl) (fun _ _ _ h=>h) rfl ?_ ?_
 rotate_left
 ·rintro w' hA;have hc9:=hA.1;go_simp;try with_reducible rfl
 clear hcl hkn;intro hcl hkn
 try simp only[List.getElem_toArray,List.getElem_cons_zero,List.getElem_cons_succ,Act.put,List.setIfInBounds_toArray,List.set_cons_zero,List.set_cons_succ]
 refine' take_pure (i:=2) (v:=_) rfl (by kernel_rfl) (by kernel_rfl) (by kernel_rfl) hcl hkn (by rfl) (fun _ _ _ h=>h) rfl ?_ ?_
 rotate_left
 ·intro w';go_simp;try with_reducible rfl
 clear hcl hkn;intro hcl hkn
 try simp only[List.getElem_toArray,List.getElem_cons_zero,List.getElem_cons_succ,Act.put,List.setIfInBounds_toArray,List.set_cons_zero,List.set_cons_succ]
 refine take_row 9 _ (i:=3) rfl (by kernel_rfl) (by kernel_rfl) (by kernel_rfl) hcl hkn (by rfl) 0 rfl (by kernel_rfl) 34 (.tmp 20) rfl b (o) rfl ca _ (fun w h=>h.2.1) Tryz.underlying34 rfl (by rw[hla];exact infoX) (fun _ _ _ h=>h) rfl ?_;clear hcl hkn;intro hcl hkn
 try simp only[List.getElem_toArray,List.getElem_cons_zero,List.getElem_cons_succ,Act.put,List.setIfInBounds_toArray,List.set_cons_zero,List.set_cons_succ]
 refine' take_pure (i:=4) (v:=_) rfl (by kernel_rfl) (by kernel_rfl) (by kernel_rfl) hcl hkn (by rfl) (fun _ _ _ h=>h) rfl ?_ ?_
 rotate_left
 ·intro w';go_simp;try with_reducible rfl
 clear hcl hkn;intro hcl hkn
 try simp only[List.getElem_toArray,List.getElem_cons_zero,List.getElem_cons_succ,Act.put,List.setIfInBounds_toArray,List.set_cons_zero,List.set_cons_succ]
 refine' take_load 9 _ (i:=5) (v:=_) rfl (by kernel_rfl) (by kernel_rfl) (by kernel_rfl) hcl hkn (by rfl) 0 rfl (by kernel_rfl) (fun _ _ _ h=>h) rfl ?_ ?_
 rotate_left
 ·rintro w' hA;have hc9:=hA.1;go_simp;try with_reducible rfl
 clear hcl hkn;intro hcl hkn
 try simp only[List.getElem_toArray,List.getElem_cons_zero,List.getElem_cons_succ,Act.put,List.setIfInBounds_toArray,List.set_cons_zero,List.set_cons_succ]
 refine' take_pure (i:=6) (v:=_) rfl (by kernel_rfl) (by kernel_rfl) (by kernel_rfl) hcl hkn (by rfl) (fun _ _ _ h=>h) rfl ?_ ?_
 rotate_left
 ·intro w';go_simp;try with_reducible rfl
 clear hcl hkn;intro hcl hkn
 try simp only[List.getElem_toArray,List.getElem_cons_zero,List.getElem_cons_succ,Act.put,List.setIfInBounds_toArray,List.set_cons_zero,List.set_cons_succ]
 refine take_row 9 _ (i:=7) rfl (by kernel_rfl) (by kernel_rfl) (by kernel_rfl) hcl hkn (by rfl) 0 rfl (by kernel_rfl) 34 (.tmp 24) rfl b (o+11) rfl cb _ (fun w h=>h.2.2) Tryz.underlying34 rfl (by rw[hlb];exact infoX) (fun _ _ _ h=>h) rfl ?_;clear hcl hkn;intro hcl hkn
 try simp only[List.getElem_toArray,List.getElem_cons_zero,List.getElem_cons_succ,Act.put,List.setIfInBounds_toArray,List.set_cons_zero,List.set_cons_succ]
 refine one_next hcl (i:=8) (by kernel_rfl) rfl rfl (fun K hK=>?_);refine wp_stN 34 (.tmp 4) (.tmp 21) (w.heap.size+1) ca (numL 0 0) 34 (by rw[hla];exact infoX) (by rw[hla];rfl) hoa rfl rfl rfl (HB.out.2.1.drew) ?_;intro w8 hb8 k8;refine hK _ _ (known_one (.inr (HA.out w8 (Keeps.then_ (Keeps.drew (Keeps.refl _ w1)) k8 fun i hi e=> .inl e)))) ?_;have hb38:=HB.out.2.2.1.drew.keep k8 (by omega);clear hK K;clear hcl hkn;intro hcl hkn
 try simp only[List.getElem_toArray,List.getElem_cons_zero,List.getElem_cons_succ,Act.put,List.setIfInBounds_toArray,List.set_cons_zero,List.set_cons_succ]
 refine one_next hcl (i:=9) (by kernel_rfl) rfl rfl (fun K hK=>?_);refine wp_stN 34 (.tmp 5) (.tmp 25) (w.heap.size+1+1) cb (numL 0 0) 34 (by rw[hlb];exact infoX) (by rw[hlb];rfl) hob rfl rfl rfl hb38 ?_;intro w9 hb9 k9;refine hK _ _ (known_one (.inl (by kernel_rfl))) ?_;have hb89:=hb8.keep k9 (by omega);clear hK K;clear hcl hkn;intro hcl hkn
 try simp only[List.getElem_toArray,List.getElem_cons_zero,List.getElem_cons_succ,Act.put,List.setIfInBounds_toArray,List.set_cons_zero,List.set_cons_succ]
 refine' take_pure (i:=10) (v:=_) rfl (by kernel_rfl) (by kernel_rfl) (by kernel_rfl) hcl hkn (by rfl) (fun _ _ _ h=>h) rfl ?_ ?_
 rotate_left
 ·intro w';go_simp;try with_reducible rfl
 clear hcl hkn;intro hcl hkn
 try simp only[List.getElem_toArray,List.getElem_cons_zero,List.getElem_cons_succ,Act.put,List.setIfInBounds_toArray,List.set_cons_zero,List.set_cons_succ]
 refine all_done (by kernel_rfl) ?_ _;go_wp2_with fail;refine bodyPost_ret (results_four rfl rfl rfl rfl (by rw[hla];exact infoX) (by rw[hlb];exact infoX) Tryz.underlying34 rfl hb89 hb9) rfl ?_;exact⟨rfl,Keeps.then_ (Keeps.then_ (Keeps.drew HB.out.2.2.2) k8 fun i hi e=>by omega) k9 fun i hi e=>by omega⟩
mutual
def rowE:Ex→Bool
 | .mk k _ _ _ _ _ _ _ _ _ ks=>decide (k=0)||(decide (k=3)&&rowKs ks)
def rowKs:List Ex→Bool
 |[]=>true
 |e::es=>rowE e&&rowKs es
end
theorem rowE_eq (e:Ex):rowE e=(decide (e.kind=0)||(decide (e.kind=3)&&rowKs e.kids)):=by cases e;rw[rowE];rfl
theorem rowKs_two (a b:Ex):rowKs [a,b]=(rowE a&&rowE b):=by unfold rowKs rowKs rowKs;simp
def Two3 (e:Ex):Prop:=e.kind=3→∃a b,e.kids=[a,b]
theorem kids_two {w:World} {B:Nat} {e ea eb:Ex} {v:Value} (hT:RdT w B v e.kids) (hk:e.kids=[ea,eb]):∃b o c ca cb,v= .slice (some ⟨b,o,none⟩) 2 c∧b<B∧w.rangeAt b o ca∧w.rangeAt b (o+11) cb∧RdE w B ea ca∧RdE w B eb cb:=by
 obtain⟨A,n,c,rfl,hn2, -⟩:=hT.slice;obtain rfl:n=2:=by rw[hn2,hk];rfl
 rw[hk]at hT;obtain⟨b,o,ca,rfl,hbb,hra,hea⟩:=hT.at_ (j:=0) (e:=ea) rfl;obtain⟨b',o',cb,hbo, -,hrb,heb⟩:=hT.at_ (j:=1) (e:=eb) rfl;simp only[Option.some.injEq,Addr.mk.injEq,and_true]at hbo;obtain⟨rfl,rfl⟩:=hbo;rw[Nat.zero_mul,Nat.add_zero]at hra;rw[Nat.one_mul]at hrb;exact⟨b,o,c,ca,cb,rfl,hbb,hra,hrb,hea,heb⟩
theorem rowless_any:∀(k:Nat) (e:Ex),nodesE e≤k→AllE Two3 e→∀(w:World) (cs:List Value),RdE w w.heap.size e cs→
  Calls Tryz.prog 83 #[.agg cs.toArray] w fun e' w'=>e'= .returned (.bool (rowE e))∧Grew w w'
 |0,e,h,_,_,_,_=>absurd (nodes_pos e) (by omega)
 |k+1,e,hk,h2,w,cs,hr=>by
  obtain⟨vm,vb,vk,rfl, -, -,hT⟩:=hr.open_;have hne:=nodes_eq e;by_cases h0:e.kind=0
  ·have hF:rowE e=true:=by rw[rowE_eq];simp[h0]
   have t0:(e.kind==0)=true:=by rw[beq_iff_eq];exact h0
   have hb:=Box.new w 34 (cells11 e vm vb vk).toArray;have hg:=(Grew.refl w).alloc (.cells (cells11 e vm vb vk).toArray 34);rw[hF];clear hr hT hk h2 hne h0 hF;go_enter Tryz.func83,Tryz.ntmps83;go_upto_region 1 with fail;change Code.wp _ _ _ _ (w.alloc (.cells (cells11 e vm vb vk).toArray 34));generalize w.alloc (.cells (cells11 e vm vb vk).toArray 34)=w1 at*;have c0:w1.cell? ⟨w.heap.size,0,none⟩=some (.int .i64 e.kind):=hb.cell 0;have HG:=Lib.hid hg;clear hb hg;go_wp2_with fail;go_ret;exact⟨rfl,HG.out⟩
  have t0:(e.kind==0)=false:=by rw[beq_eq_false_iff_ne];exact h0
  by_cases h3:e.kind=3
  ·obtain⟨ea,eb,hks⟩:=h2.top h3;have hna:=nodesKs_mem (show ea∈e.kids by rw[hks];simp);have hnb:=nodesKs_mem (show eb∈e.kids by rw[hks];simp);have hF:rowE e=(rowE ea&&rowE eb):=by rw[rowE_eq,hks,rowKs_two];simp[h3]
   have t3:(e.kind==3)=true:=by rw[beq_iff_eq];exact h3
   obtain⟨b,o,c,ca,cb,rfl,hbb,hra,hrb,hea,heb⟩:=kids_two hT hks;have HA:=Lib.hid (fun w' (g:Grew w w')=>rowless_any k ea (by omega) (h2.kid (by rw[hks];simp)) w' ca (hea.grew g));have HB:=Lib.hid (fun w' (g:Grew w w')=>rowless_any k eb (by omega) (h2.kid (by rw[hks];simp)) w' cb (heb.grew g));have HL:=Lib.hid (And.intro (rdE_len hea) (rdE_len heb));have HRa:=Lib.hid (show ∀w',Grew w w'→w'.rangeAt b o ca∧w'.rangeAt b (o+11) cb from fun w' g=>⟨rangeAt_keep hra hbb g (fun h=>h),rangeAt_keep hrb hbb g (fun h=>h)⟩);have hb:=Box.new w 34 (cells11 e vm vb (.slice (some ⟨b,o,none⟩) 2 c)).toArray;have hg:=(Grew.refl w).alloc (.cells (cells11 e vm vb (.slice (some ⟨b,o,none⟩) 2 c)).toArray 34);obtain⟨x,hx⟩:∃x,rowE ea=x:=⟨_,rfl⟩;obtain⟨y,hy⟩:∃y,rowE eb=y:=⟨_,rfl⟩;rw[hx]at HA hF;rw[hy]at HB hF;rw[hF];clear hr hT hk h2 hne h0 h3 hF hna hnb hra hrb hea heb hks hx hy;go_enter Tryz.func83,Tryz.ntmps83;go_upto_region 1 with fail;change Code.wp _ _ _ _ (w.alloc (.cells (cells11 e vm vb (.slice (some ⟨b,o,none⟩) 2 c)).toArray 34));generalize w.alloc (.cells (cells11 e vm vb (.slice (some ⟨b,o,none⟩) 2 c)).toArray 34)=w1 at*;have c0:w1.cell? ⟨w.heap.size,0,none⟩=some (.int .i64 e.kind):=hb.cell 0;have HG:=Lib.hid hg;have HBx:=Lib.hid hb;clear hb hg;go_upto_region 5 with fail;rcases x with _|_
   ·refine region_seqG [.pointer (some ⟨w.heap.size,10,none⟩),.slice (some ⟨b,o,none⟩) 2 c,.pointer (some ⟨b,o,none⟩),.agg ca.toArray,.bool false,.bool false,undef,undef,undef,undef,undef,.bool false,.bool false] _ (by kernel_rfl) (by kernel_rfl) rfl ?sH ?sT
    case sH=>
     simp only[List.toList_toArray,List.append_eq,List.cons_append,List.nil_append,putAll,Act.put,List.setIfInBounds_toArray,List.set_cons_zero,List.set_cons_succ];refine headG_run (by kernel_rfl) (fun w' hg=>?_) ?_
     ·go_simp;exact Grew.refl _
     refine headG_run (by kernel_rfl) (fun w' hg=>?_) ?_
     ·have hc:w'.cell? ⟨w.heap.size,10,none⟩=some (.slice (some ⟨b,o,none⟩) 2 c):=(HBx.out.grew hg).cell 10;exact ld_one 32 (.tmp 9) (fun w v h=>by simp[go_sem,h]) rfl (by kernel_rfl) hc ⟨by kernel_rfl,Grew.refl _⟩
     refine headG_run (by kernel_rfl) (fun w' hg=>?_) ?_
     ·go_simp;exact Grew.refl _
     refine headG_run (by kernel_rfl) (fun w' hg=>?_) ?_
     ·refine wp_load_mid 34 (.tmp 11) rfl b (o) rfl ca _ (HRa.out w' (HG.out.trans hg)).1 Tryz.underlying34 rfl (by rw[HL.out.1];exact infoX) ?_;exact⟨rfl,Grew.refl _⟩
     refine headG_run (by kernel_rfl) (fun w' hg=>?_) ?_
     ·go_simp;(with_reducible refine(HA.out _ (HG.out.trans hg)).mono ?_);rintro e wq ⟨rfl,kq⟩;exact⟨rfl,kq⟩
     refine headG_run (by kernel_rfl) (fun w' hg=>?_) ?_
     ·go_simp;exact Grew.refl _
     refine headG_skip (by kernel_rfl) (by kernel_rfl) ?_;refine headG_skip (by kernel_rfl) (by kernel_rfl) ?_;refine headG_skip (by kernel_rfl) (by kernel_rfl) ?_;refine headG_skip (by kernel_rfl) (by kernel_rfl) ?_;refine headG_skip (by kernel_rfl) (by kernel_rfl) ?_;refine headG_run (by kernel_rfl) (fun w' hg=>?_) ?_
     ·go_simp;exact Grew.refl _
     refine headG_run (by kernel_rfl) (fun w' hg=>?_) ?_
     ·go_simp;exact Grew.refl _
     exact headG_nil
    case sT=>
     intro w9 hg9;simp only[List.toList_toArray,List.append_eq,List.cons_append,List.nil_append,putAll,Act.put,List.setIfInBounds_toArray,List.set_cons_zero,List.set_cons_succ];go_wp2_with fail;go_ret;exact⟨rfl,HG.out.trans hg9⟩
   refine region_seqG [.pointer (some ⟨w.heap.size,10,none⟩),.slice (some ⟨b,o,none⟩) 2 c,.pointer (some ⟨b,o,none⟩),.agg ca.toArray,.bool true,.bool true,.pointer (some ⟨w.heap.size,10,none⟩),.slice (some ⟨b,o,none⟩) 2 c,.pointer (some ⟨b,o+11,none⟩),.agg cb.toArray,.bool y,.bool y,.bool y] _ (by kernel_rfl) (by kernel_rfl) rfl ?sH ?sT
   case sH=>
    simp only[List.toList_toArray,List.append_eq,List.cons_append,List.nil_append,putAll,Act.put,List.setIfInBounds_toArray,List.set_cons_zero,List.set_cons_succ];refine headG_run (by kernel_rfl) (fun w' hg=>?_) ?_
    ·go_simp;exact Grew.refl _
    refine headG_run (by kernel_rfl) (fun w' hg=>?_) ?_
    ·have hc:w'.cell? ⟨w.heap.size,10,none⟩=some (.slice (some ⟨b,o,none⟩) 2 c):=(HBx.out.grew hg).cell 10;exact ld_one 32 (.tmp 9) (fun w v h=>by simp[go_sem,h]) rfl (by kernel_rfl) hc ⟨by kernel_rfl,Grew.refl _⟩
    refine headG_run (by kernel_rfl) (fun w' hg=>?_) ?_
    ·go_simp;exact Grew.refl _
    refine headG_run (by kernel_rfl) (fun w' hg=>?_) ?_
    ·refine wp_load_mid 34 (.tmp 11) rfl b (o) rfl ca _ (HRa.out w' (HG.out.trans hg)).1 Tryz.underlying34 rfl (by rw[HL.out.1];exact infoX) ?_;exact⟨rfl,Grew.refl _⟩
    refine headG_run (by kernel_rfl) (fun w' hg=>?_) ?_
    ·go_simp;(with_reducible refine(HA.out _ (HG.out.trans hg)).mono ?_);rintro e wq ⟨rfl,kq⟩;exact⟨rfl,kq⟩
    refine headG_run (by kernel_rfl) (fun w' hg=>?_) ?_
    ·go_simp;exact Grew.refl _
    refine headG_run (by kernel_rfl) (fun w' hg=>?_) ?_
    ·go_simp;exact Grew.refl _
    refine headG_run (by kernel_rfl) (fun w' hg=>?_) ?_
    ·have hc:w'.cell? ⟨w.heap.size,10,none⟩=some (.slice (some ⟨b,o,none⟩) 2 c):=(HBx.out.grew hg).cell 10;exact ld_one 32 (.tmp 15) (fun w v h=>by simp[go_sem,h]) rfl (by kernel_rfl) hc ⟨by kernel_rfl,Grew.refl _⟩
    refine headG_run (by kernel_rfl) (fun w' hg=>?_) ?_
    ·go_simp;exact Grew.refl _
    refine headG_run (by kernel_rfl) (fun w' hg=>?_) ?_
    ·refine wp_load_mid 34 (.tmp 17) rfl b (o+11) rfl cb _ (HRa.out w' (HG.out.trans hg)).2 Tryz.underlying34 rfl (by rw[HL.out.2];exact infoX) ?_;exact⟨rfl,Grew.refl _⟩
    refine headG_run (by kernel_rfl) (fun w' hg=>?_) ?_
    ·go_simp;(with_reducible refine(HB.out _ (HG.out.trans hg)).mono ?_);rintro e wq ⟨rfl,kq⟩;exact⟨rfl,kq⟩
    refine headG_run (by kernel_rfl) (fun w' hg=>?_) ?_
    ·go_simp;exact Grew.refl _
    refine headG_run (by kernel_rfl) (fun w' hg=>?_) ?_
    ·go_simp;exact Grew.refl _
    exact headG_nil
   case sT=>
    intro w9 hg9;simp only[List.toList_toArray,List.append_eq,List.cons_append,List.nil_append,putAll,Act.put,List.setIfInBounds_toArray,List.set_cons_zero,List.set_cons_succ];go_wp2_with fail;go_ret;exact⟨rfl,HG.out.trans hg9⟩
  have hF:rowE e=false:=by rw[rowE_eq];simp[h0,h3]
  have t3:(e.kind==3)=false:=by rw[beq_eq_false_iff_ne];exact h3
  have hb:=Box.new w 34 (cells11 e vm vb vk).toArray;have hg:=(Grew.refl w).alloc (.cells (cells11 e vm vb vk).toArray 34);rw[hF];clear hr hT hk h2 hne h0 h3 hF;go_enter Tryz.func83,Tryz.ntmps83;go_upto_region 1 with fail;change Code.wp _ _ _ _ (w.alloc (.cells (cells11 e vm vb vk).toArray 34));generalize w.alloc (.cells (cells11 e vm vb vk).toArray 34)=w1 at*;have c0:w1.cell? ⟨w.heap.size,0,none⟩=some (.int .i64 e.kind):=hb.cell 0;have HG:=Lib.hid hg;clear hb hg;go_wp2_with fail;go_ret;exact⟨rfl,HG.out⟩
def srcTop (k:Int) (nm:ByteArray) (ps:List (Bool×ByteArray×Bool)):ByteArray×Bool:=
 if k=1 then(nm,true)else match ps with
  |[(ra,la,ka),(rb,lb,kb)]=>if k=3 then(if ra then(lb,kb)else if rb then(la,ka)else(la,ka&&kb&&la.toList==lb.toList))else(⟨#[]⟩,false)
  |_=>(⟨#[]⟩,false)
mutual
def srcE:Ex→ByteArray×Bool
 | .mk k _ _ _ _ _ _ nm _ _ ks=>srcTop k nm (srcKs ks)
def srcKs:List Ex→List (Bool×ByteArray×Bool)
 |[]=>[]
 |e::es=>(rowE e,srcE e)::srcKs es
end
theorem srcE_eq (e:Ex):srcE e=srcTop e.kind e.name (srcKs e.kids):=by cases e;rw[srcE];rfl
theorem srcE_two {e a b:Ex} (h:e.kind=3) (hk:e.kids=[a,b]):srcE e=if rowE a then srcE b else if rowE b then srcE a else((srcE a).1,(srcE a).2&&(srcE b).2&&(srcE a).1.toList==(srcE b).1.toList):=by
 rw[srcE_eq,hk,h];unfold srcKs srcKs srcKs srcTop;rw[if_neg (by decide)];simp
def SelOk (nm:ByteArray):Prop:=validE (selE 0 0 nm)=0∧NodeOk (selE 0 0 nm)∧0<nm.size∧nm.size≤1000
def SrcN (e:Ex):Prop:=(e.kind=0∧e.kids=[])∨(e.kind=1∧e.ms=[]∧SelOk e.name)∨(e.kind=3∧∃a b,e.kids=[a,b])
theorem src_two3 {e:Ex} (h:SrcN e):Two3 e:=fun h3=>by
 rcases h with⟨h, -⟩|⟨h, -⟩|⟨-,h⟩
 ·rw[h]at h3;cases h3
 ·rw[h]at h3;cases h3
 exact h
def selC (nm:ByteArray) (vm:Value):List Value:=[.int .i64 1,.int .i64 0,.int .i64 0,.int .i64 0,.int .i64 0,.int .i64 0,.int .i64 0,.string nm,vm,.slice none 0 0,.slice none 0 0]
theorem source_any:∀(k:Nat) (e:Ex),nodesE e≤k→AllE SrcN e→∀(w:World) (cs:List Value),WTab w→OTab w→RdE w w.heap.size e cs→
  Calls Tryz.prog 104 #[.agg cs.toArray] w fun e' w'=>e'= .returned (.tuple #[.string (srcE e).1,.bool (srcE e).2])∧Grew w w'
 |0,e,h,_,_,_,_,_,_=>absurd (nodes_pos e) (by omega)
 |k+1,e,hk,h2,w,cs,hwt,hot,hr=>by
  have h23:AllE Two3 e:=h2.mono (fun _ h=>src_two3 h) (nodesE e) e (Nat.le_refl _);obtain⟨vm,vb,vk,rfl,hms, -,hT⟩:=hr.open_;have hne:=nodes_eq e;rcases h2.top with⟨h0,hks⟩|⟨h1,hm,hsel⟩|⟨h3,ea,eb,hks⟩
  ·have hF:srcE e=(⟨#[]⟩,false):=by rw[srcE_eq,hks,h0];rfl
   have hb:=Box.new w 34 (cells11 e vm vb vk).toArray;have hg:=(Grew.refl w).alloc (.cells (cells11 e vm vb vk).toArray 34);rw[hF];clear hr hT hk h2 h23 hne hF hks hwt hot hms;go_enter Tryz.func104,Tryz.ntmps104;go_upto_region 1 with fail;change Code.wp _ _ _ _ (w.alloc (.cells (cells11 e vm vb vk).toArray 34));generalize w.alloc (.cells (cells11 e vm vb vk).toArray 34)=w1 at*;have c0:w1.cell? ⟨w.heap.size,0,none⟩=some (.int .i64 0):=by rw[←h0];exact hb.cell 0
   have HG:=Lib.hid hg;clear hb hg h0;go_wp2_with fail;refine bodyPost_ret (by simp[results,Tryz.func104];rfl) rfl ?_;exact⟨rfl,HG.out⟩
  ·have hF:srcE e=(e.name,true):=by rw[srcE_eq,h1];rfl
   obtain⟨Am,c,hvm,hc,hx⟩:=hms;rw[hm]at hvm;obtain rfl:vm= .slice Am 0 c:=hvm;have hb:=Box.new w 34 (cells11 e (.slice Am 0 c) vb vk).toArray;have hg:=(Grew.refl w).alloc (.cells (cells11 e (.slice Am 0 c) vb vk).toArray 34);have HP:=Lib.hid (show ∀w',Grew w w'→Calls Tryz.prog 7 #[.agg (selC e.name (.slice Am 0 c)).toArray] w' (PrintPost (selE 0 0 e.name) w')from fun w' g=>print_any (selE 0 0 e.name) (by unfold selE;simp[nodesE,nodesKs]) (AllE_iff.2 ⟨hsel.2.1,fun k hk=>nomatch hk⟩) (AllE_iff.2 ⟨.inr (.inl ⟨rfl,rfl,rfl,rfl,hsel.2.2.2⟩),fun k hk=>nomatch hk⟩) hsel.1
    (by rw[show prE (selE 0 0 e.name)=bl e.name from rfl,bl_length];have:=hsel.2.2;omega) (by rw[show prE (selE 0 0 e.name)=bl e.name from rfl];exact bl_bytes _) w' (selC e.name (.slice Am 0 c)) (hwt.grew g) (hot.keep g (fun h=>h))
    (RdE.mk_ (e:=selE 0 0 e.name) (vm:= .slice Am 0 c) ⟨Am,c,rfl,Nat.zero_le _,fun h=>absurd h (by simp[selE,Ex.ms])⟩ (RdR.nil _ _ _) (RdT.nil _ _)))
   rw[hF];clear hr hT hk h2 h23 hne hF hwt hot hx hsel hm;go_enter Tryz.func104,Tryz.ntmps104;go_upto_region 1 with fail;change Code.wp _ _ _ _ (w.alloc (.cells (cells11 e (.slice Am 0 c) vb vk).toArray 34));generalize w.alloc (.cells (cells11 e (.slice Am 0 c) vb vk).toArray 34)=w1 at*;have c0:w1.cell? ⟨w.heap.size,0,none⟩=some (.int .i64 1):=by rw[←h1];exact hb.cell 0
   have c7:w1.cell? ⟨w.heap.size,7,none⟩=some (.string e.name):=hb.cell 7;have c8:w1.cell? ⟨w.heap.size,8,none⟩=some (.slice Am 0 c):=hb.cell 8;have HG:=Lib.hid hg;clear hb hg h1;go_wp2_with(go_at_call 7;refine(HP.out _ HG.out).mono ?_;rintro e3 w2 ⟨s,rfl,hs,k2⟩;obtain rfl:s=e.name:=bl_inj hs;have HG2:=Lib.hid (HG.out.trans k2);clear k2 hs);refine bodyPost_ret (by simp[results,Tryz.func104];rfl) rfl ?_;exact⟨rfl,HG2.out⟩
  have hna:=nodesKs_mem (show ea∈e.kids by rw[hks];simp);have hnb:=nodesKs_mem (show eb∈e.kids by rw[hks];simp);have hF:=srcE_two h3 hks;obtain⟨b,o,c,ca,cb,rfl,hbb,hra,hrb,hea,heb⟩:=kids_two hT hks;have HAr:=Lib.hid (fun w' (g:Grew w w')=>rowless_any (nodesE ea) ea (Nat.le_refl _) (h23.kid (by rw[hks];simp)) w' ca (hea.grew g));have HBr:=Lib.hid (fun w' (g:Grew w w')=>rowless_any (nodesE eb) eb (Nat.le_refl _) (h23.kid (by rw[hks];simp)) w' cb (heb.grew g));have HAs:=Lib.hid (fun w' (g:Grew w w')=>source_any k ea (by omega) (h2.kid (by rw[hks];simp)) w' ca (hwt.grew g) (hot.keep g (fun h=>h)) (hea.grew g));have HBs:=Lib.hid (fun w' (g:Grew w w')=>source_any k eb (by omega) (h2.kid (by rw[hks];simp)) w' cb (hwt.grew g) (hot.keep g (fun h=>h)) (heb.grew g));have HL:=Lib.hid (And.intro (rdE_len hea) (rdE_len heb));have HRa:=Lib.hid (show ∀w',Grew w w'→w'.rangeAt b o ca∧w'.rangeAt b (o+11) cb from fun w' g=>⟨rangeAt_keep hra hbb g (fun h=>h),rangeAt_keep hrb hbb g (fun h=>h)⟩);have hb:=Box.new w 34 (cells11 e vm vb (.slice (some ⟨b,o,none⟩) 2 c)).toArray;have hg:=(Grew.refl w).alloc (.cells (cells11 e vm vb (.slice (some ⟨b,o,none⟩) 2 c)).toArray 34);obtain⟨x,hx⟩:∃x,rowE ea=x:=⟨_,rfl⟩;obtain⟨y,hy⟩:∃y,rowE eb=y:=⟨_,rfl⟩;obtain⟨⟨la,ka⟩,hsa⟩:∃p,srcE ea=p:=⟨_,rfl⟩;obtain⟨⟨lb,kb⟩,hsb⟩:∃p,srcE eb=p:=⟨_,rfl⟩;rw[hx]at HAr hF;rw[hy]at HBr hF;rw[hsa]at HAs hF;rw[hsb]at HBs hF;dsimp only at hF HAs HBs;obtain⟨⟨ls,ks⟩,hls⟩:∃p,srcE e=p:=⟨_,rfl⟩;rw[hls]at hF ⊢;have HF:=Lib.hid hF;clear hr hT hk h2 h23 hne hF hna hnb hra hrb hea heb hks hx hy hsa hsb hwt hot hms hls;go_enter Tryz.func104,Tryz.ntmps104;go_upto_region 1 with fail;change Code.wp _ _ _ _ (w.alloc (.cells (cells11 e vm vb (.slice (some ⟨b,o,none⟩) 2 c)).toArray 34));generalize w.alloc (.cells (cells11 e vm vb (.slice (some ⟨b,o,none⟩) 2 c)).toArray 34)=w1 at*;have c0:w1.cell? ⟨w.heap.size,0,none⟩=some (.int .i64 3):=by rw[←h3];exact hb.cell 0
  have c10:w1.cell? ⟨w.heap.size,10,none⟩=some (.slice (some ⟨b,o,none⟩) 2 c):=hb.cell 10;have HG:=Lib.hid hg;have HC:=Lib.hid (show ∀w',Grew w1 w'→w'.cell? ⟨w.heap.size,10,none⟩=some (.slice (some ⟨b,o,none⟩) 2 c)from fun w' g=>(hb.grew g).cell 10);clear hb hg h3;have HK:=Lib.hid (Grew.refl w1);rcases x with _|_
  ·go_upto_region 12 with(first|((with_reducible refine at_load 34 (.tmp 51) rfl ?_);refine wpList_load_mid rfl 34 (.tmp 51) rfl b o rfl ca _ (HRa.out _ HG.out).1 Tryz.underlying34 rfl (by rw[HL.out.1];exact infoX) ?_)|(go_at_call 83;(with_reducible refine(HAr.out _ HG.out).mono ?_);rintro e3 w2 ⟨rfl,k2⟩;have HG2:=Lib.hid (HG.out.trans k2);have HK2:=Lib.hid (HK.out.trans k2);have ccw2:w2.cell? ⟨w.heap.size,10,none⟩=some (.slice (some ⟨b,o,none⟩) 2 c):=HC.out _ HK2.out;clear k2)|((with_reducible refine at_load 34 (.tmp 64) rfl ?_);refine wpList_load_mid rfl 34 (.tmp 64) rfl b o rfl ca _ (HRa.out _ HG2.out).1 Tryz.underlying34 rfl (by rw[HL.out.1];exact infoX) ?_)|(go_at_call 104;(with_reducible refine(HAs.out _ HG2.out).mono ?_);rintro e3 w3 ⟨rfl,k2⟩;have HG3:=Lib.hid (HG2.out.trans k2);have HK3:=Lib.hid (HK2.out.trans k2);have ccw3:w3.cell? ⟨w.heap.size,10,none⟩=some (.slice (some ⟨b,o,none⟩) 2 c):=HC.out _ HK3.out;clear k2));clear ccw2 c10;rcases y with _|_
   ·go_upto_region 15 with(first|((with_reducible refine at_load 34 (.tmp 71) rfl ?_);refine wpList_load_mid rfl 34 (.tmp 71) rfl b (o+11) rfl cb _ (HRa.out _ HG3.out).2 Tryz.underlying34 rfl (by rw[HL.out.2];exact infoX) ?_)|(go_at_call 83;(with_reducible refine(HBr.out _ HG3.out).mono ?_);rintro e3 w4 ⟨rfl,k2⟩;have HG4:=Lib.hid (HG3.out.trans k2);have HK4:=Lib.hid (HK3.out.trans k2);have ccw4:w4.cell? ⟨w.heap.size,10,none⟩=some (.slice (some ⟨b,o,none⟩) 2 c):=HC.out _ HK4.out;clear k2)|((with_reducible refine at_load 34 (.tmp 79) rfl ?_);refine wpList_load_mid rfl 34 (.tmp 79) rfl b (o+11) rfl cb _ (HRa.out _ HG4.out).2 Tryz.underlying34 rfl (by rw[HL.out.2];exact infoX) ?_)|(go_at_call 104;(with_reducible refine(HBs.out _ HG4.out).mono ?_);rintro e3 w5 ⟨rfl,k2⟩;have HG5:=Lib.hid (HG4.out.trans k2);have HK5:=Lib.hid (HK4.out.trans k2);have ccw5:w5.cell? ⟨w.heap.size,10,none⟩=some (.slice (some ⟨b,o,none⟩) 2 c):=HC.out _ HK5.out;clear k2));have hF:=HF.out;simp only[Bool.false_eq_true,if_false,Prod.mk.injEq]at hF;obtain⟨rfl,hF⟩:=hF;rcases ka with _|_
    ·have hkz:ks=false:=by rw[hF];rfl
     clear hF HF;subst hkz;go_wp2_with fail;refine bodyPost_ret (by simp[results,Tryz.func104];rfl) rfl ?_;exact⟨rfl,HG5.out⟩
    rcases kb with _|_
    ·have hkz:ks=false:=by rw[hF];rfl
     clear hF HF;subst hkz;go_wp2_with fail;refine bodyPost_ret (by simp[results,Tryz.func104];rfl) rfl ?_;exact⟨rfl,HG5.out⟩
    obtain⟨z,hz⟩:∃z,(ls.toList==lb.toList)=z:=⟨_,rfl⟩;have hkz:ks=z:=by rw[hF,←hz];rfl
    clear hF HF;subst hkz;rcases ks with _|_
    ·go_wp2_with fail;refine bodyPost_ret (by simp[results,Tryz.func104];rfl) rfl ?_;exact⟨rfl,HG5.out⟩
    go_wp2_with fail;refine bodyPost_ret (by simp[results,Tryz.func104];rfl) rfl ?_;exact⟨rfl,HG5.out⟩
   go_wp2_with(first|((with_reducible refine at_load 34 (.tmp 71) rfl ?_);refine wpList_load_mid rfl 34 (.tmp 71) rfl b (o+11) rfl cb _ (HRa.out _ HG3.out).2 Tryz.underlying34 rfl (by rw[HL.out.2];exact infoX) ?_)|(go_at_call 83;(with_reducible refine(HBr.out _ HG3.out).mono ?_);rintro e3 w4 ⟨rfl,k2⟩;have HG4:=Lib.hid (HG3.out.trans k2);have HK4:=Lib.hid (HK3.out.trans k2);have ccw4:w4.cell? ⟨w.heap.size,10,none⟩=some (.slice (some ⟨b,o,none⟩) 2 c):=HC.out _ HK4.out;clear k2));have hF:=HF.out;simp only[Bool.false_eq_true,if_false,if_true,Prod.mk.injEq]at hF;obtain⟨rfl,rfl⟩:=hF;refine bodyPost_ret (by simp[results,Tryz.func104];rfl) rfl ?_;exact⟨rfl,HG4.out⟩
  go_wp2_with(first|((with_reducible refine at_load 34 (.tmp 51) rfl ?_);refine wpList_load_mid rfl 34 (.tmp 51) rfl b o rfl ca _ (HRa.out _ HG.out).1 Tryz.underlying34 rfl (by rw[HL.out.1];exact infoX) ?_)|(go_at_call 83;(with_reducible refine(HAr.out _ HG.out).mono ?_);rintro e3 w2 ⟨rfl,k2⟩;have HG2:=Lib.hid (HG.out.trans k2);have HK2:=Lib.hid (HK.out.trans k2);have ccw2:w2.cell? ⟨w.heap.size,10,none⟩=some (.slice (some ⟨b,o,none⟩) 2 c):=HC.out _ HK2.out;clear k2)|((with_reducible refine at_load 34 (.tmp 56) rfl ?_);refine wpList_load_mid rfl 34 (.tmp 56) rfl b (o+11) rfl cb _ (HRa.out _ HG2.out).2 Tryz.underlying34 rfl (by rw[HL.out.2];exact infoX) ?_)|(go_at_call 104;(with_reducible refine(HBs.out _ HG2.out).mono ?_);rintro e3 w3 ⟨rfl,k2⟩;have HG3:=Lib.hid (HG2.out.trans k2);have HK3:=Lib.hid (HK2.out.trans k2);have ccw3:w3.cell? ⟨w.heap.size,10,none⟩=some (.slice (some ⟨b,o,none⟩) 2 c):=HC.out _ HK3.out;clear k2));have hF:=HF.out;simp only[if_true,Prod.mk.injEq]at hF;obtain⟨rfl,rfl⟩:=hF;refine bodyPost_ret (by simp[results,Tryz.func104];rfl) rfl ?_;exact⟨rfl,HG3.out⟩
end Go.Proofs.YtcimmbhdcebehaaGreatDoor
