/- What the card of the law stands on: Rw1, Rw2, JoinL, JoinA. -/
import Derived.Test.YthpflelgbadkcaaGreatDoorRewriteTypesP01
import Derived.Test.YthpflelgbadkcaaGreatDoorRewriteTypesP21
import Derived.Test.YthpflelgbadkcaaGreatDoorRewriteTypesP11
import Derived.Test.YthpflelgbadkcaaGreatDoorRewriteTypesP07
import Derived.Shelf.Strings.OnBuilder
import Derived.Test.YthpflelgbadkcaaGreatDoorProg
import Derived.Test.YthpflelgbadkcaaGreatDoorRewriteTypesP20
set_option maxRecDepth 100000
set_option maxHeartbeats 12800000
set_option linter.unusedVariables false
set_option linter.unusedSimpArgs false
namespace Go.Proofs.YthpflelgbadkcaaGreatDoor
open Go.RowKit Pl
def H7 (e:Ex) (n:Int):Bool:=decide (e.kind=0∧e.num=n∧e.den=1)
theorem MH (a b:Int) (w:World):(Instr.build 24 #[(0,.int .i64 a),(1,.int .i64 b)]).run Tryz.prog w= .ok (.agg (AI a b).toArray) w:=by kernel_rfl
theorem CK (e:Ex) (n:Int) (cs:List Value) (w:World) (B:Nat) (hr:BU w B e cs):Calls Tryz.prog 85 #[.agg cs.toArray,.int .i64 n] w fun e' w'=>e'= .returned (.bool (H7 e n))∧A4 w w':=by
 obtain⟨vm,vb,vk,rfl, -⟩:=hr.open_;have hb:=VW w 29 (AC e vm vb vk).toArray;have hg:=(VU w).alloc (.cells (AC e vm vb vk).toArray 29);clear hr;go_enter Tryz.func85,Tryz.ntmps85;go_upto_region 1 with fail;change Code.wp _ _ _ _ (w.alloc (.cells (AC e vm vb vk).toArray 29));generalize w.alloc (.cells (AC e vm vb vk).toArray 29)=w1 at*;have c0:w1.cell? ⟨w.heap.size,0,none⟩=some (.int .i64 e.kind):=hb.cell 0;have r1:w1.rangeAt w.heap.size 5 (AI e.num e.den):=hb.rangeN 5 _ rfl;have HG:=V3 hg;clear hb hg;by_cases h0:e.kind=0
 ·have t0:(e.kind==0)=true:=by rw[VC];exact h0
  obtain⟨r,hr⟩:∃r:Bool,decide (e.num=n∧e.den=1)=r:=⟨_,rfl⟩;have HF:=V3 (show H7 e n=r from by unfold H7;rw[←hr];simp[h0]);have t5:∀w,(binOp .eql 24 (.agg (AI e.num e.den).toArray) (.agg #[.int .i64 n,.int .i64 1])).run Tryz.prog w= .ok (.bool r) w:=fun w=>F6 e.num e.den n 1 r hr w
  have hbd:=fun w=>MH n 1 w
  clear h0 hr;go_wp2_with(first|((with_reducible refine AF 24 (.tmp 9) rfl ?_);refine Uk 24 (.tmp 9) rfl rfl Tryz.underlying24 rfl (w.heap.size) 5 (AI e.num e.den) Ao rfl r1 ?_));go_ret;exact⟨by rw[HF.out];rfl,HG.out⟩
 have t0:(e.kind==0)=false:=by rw[V4];exact h0
 have HF:=V3 (show H7 e n=false from by unfold H7;simp[h0]);clear h0;go_wp2_with fail;go_ret;exact⟨by rw[HF.out];rfl,HG.out⟩
theorem F4 {fn:Func} {p q r:Tmp} {ty:TypeId} (h:fn.results=#[.cell p ty,.cell q ty,.tmp r]) {tmps:Array Value} {w:World} {a b:Nat} {xs ys:List Value} {v:Value} {t:TypeId} (hp:tmps.getD p undef= .pointer (some ⟨a,0,none⟩)) (hq:tmps.getD q undef= .pointer (some ⟨b,0,none⟩)) (hr:tmps.getD r undef=v)
  (hT:(Tryz.prog.info? ty).map (·.size)=some xs.length) (hT2:(Tryz.prog.info? ty).map (·.size)=some ys.length) {d:TypeDesc} (hu:Tryz.prog.underlying ty=some d) (hd:d.isRow=true) (ha:AR w a t xs.toArray) (hb:AR w b t ys.toArray):
  (results fn tmps).run Tryz.prog w= .ok (.tuple #[.agg xs.toArray,.agg ys.toArray,v]) w:=by
 have hl:=run_loadVar_mid (P:=Tryz.prog) w a 0 ty xs d (ha.rangeN 0 xs (by simp)) hu hd hT;have hl2:=run_loadVar_mid (P:=Tryz.prog) w b 0 ty ys d (hb.rangeN 0 ys (by simp)) hu hd hT2;simp only[results,h];rw[Array.getD_eq_getD_getElem?]at hp hq hr
 first|(simp[hp,hq,hr,Result.andThen,hl,hl2,asAddr];done)|(simp[Sem.run_bind,hp,hq,hr,Result.andThen,hl,hl2,asAddr];done)|(simp only[Sem.run_bind];simp[hp,hq,hr,Result.andThen,hl,hl2,asAddr])
theorem Qe (e:Ex) (f:Int) (cs:List Value) (w:World) (B:Nat) (hr:BU w B e cs) (hn:¬(e.kind=3∧e.fn=f)):Calls Tryz.prog 89 #[.agg cs.toArray,.int .i64 f] w fun e' w'=>e'= .returned (.tuple #[.agg (AJ 0 0).toArray,.agg (AJ 0 0).toArray,.bool false])∧A4 w w':=by
 obtain⟨vm,vb,vk,rfl, -⟩:=hr.open_;obtain⟨hb1,hb2,hb3,hG⟩:=Ci w 29 29 29 (AC e vm vb vk).toArray (AJ 0 0).toArray (AJ 0 0).toArray;clear hr;go_enter Tryz.func89,Tryz.ntmps89;go_upto_region 1 with fail;change Code.wp _ _ _ _ (((w.alloc (.cells (AC e vm vb vk).toArray 29)).alloc (.cells (AJ 0 0).toArray 29)).alloc (.cells (AJ 0 0).toArray 29));generalize ((w.alloc (.cells (AC e vm vb vk).toArray 29)).alloc (.cells (AJ 0 0).toArray 29)).alloc (.cells (AJ 0 0).toArray 29)=w1 at*;have c0:w1.cell? ⟨w.heap.size,0,none⟩=some (.int .i64 e.kind):=hb1.cell 0;have c1:w1.cell? ⟨w.heap.size,1,none⟩=some (.int .i64 e.fn):=hb1.cell 1;have HG:=V3 hG;clear hb1 hG;by_cases h3:e.kind=3
 ·have t0:(e.kind==3)=true:=by rw[VC];exact h3
  have t0':(e.kind !=3)=false:=by rw[bne,t0];rfl
  have t1:(e.fn==f)=false:=by rw[V4];exact fun h=>hn ⟨h3,h⟩
  have t1':(e.fn !=f)=true:=by rw[bne,t1];rfl
  clear h3 hn;go_wp2_with(first|((with_reducible refine AG 29 (.tmp 4) (.tmp 16) rfl ?_);refine BL 29 (.tmp 4) (.tmp 16) (w.heap.size+1) (AJ 0 0) (AJ 0 0) 29 AE rfl (Bh _ _) rfl rfl rfl rfl hb2 ?_;intro w8 hb8 k8 d8;have hb38:=hb3.keep k8 (by omega))|((with_reducible refine AG 29 (.tmp 5) (.tmp 17) rfl ?_);refine BL 29 (.tmp 5) (.tmp 17) (w.heap.size+1+1) (AJ 0 0) (AJ 0 0) 29 AE rfl (Bh _ _) rfl rfl rfl rfl hb38 ?_;intro w9 hb9 k9 d9;have hb89:=hb8.keep k9 (by omega)));refine bodyPost_ret (F4 rfl rfl rfl rfl AE AE Tryz.underlying29 rfl hb89 hb9) rfl ?_;exact⟨rfl,VV (VV HG.out k8 fun i hi e=>by omega) k9 fun i hi e=>by omega⟩
 have t0:(e.kind==3)=false:=by rw[V4];exact h3
 have t0':(e.kind !=3)=true:=by rw[bne,t0];rfl
 clear h3 hn;go_wp2_with(first|((with_reducible refine AG 29 (.tmp 4) (.tmp 16) rfl ?_);refine BL 29 (.tmp 4) (.tmp 16) (w.heap.size+1) (AJ 0 0) (AJ 0 0) 29 AE rfl (Bh _ _) rfl rfl rfl rfl hb2 ?_;intro w8 hb8 k8 d8;have hb38:=hb3.keep k8 (by omega))|((with_reducible refine AG 29 (.tmp 5) (.tmp 17) rfl ?_);refine BL 29 (.tmp 5) (.tmp 17) (w.heap.size+1+1) (AJ 0 0) (AJ 0 0) 29 AE rfl (Bh _ _) rfl rfl rfl rfl hb38 ?_;intro w9 hb9 k9 d9;have hb89:=hb8.keep k9 (by omega)));refine bodyPost_ret (F4 rfl rfl rfl rfl AE AE Tryz.underlying29 rfl hb89 hb9) rfl ?_;exact⟨rfl,VV (VV HG.out k8 fun i hi e=>by omega) k9 fun i hi e=>by omega⟩
theorem OY (e:Ex) (f:Int) (vm vb:Value) (b o c:Nat) (ca cb:List Value) (w:World) (h3:e.kind=3) (hf:e.fn=f) (hbw:b<w.heap.size) (hra:w.rangeAt b o ca) (hrb:w.rangeAt b (o+11) cb) (hla:ca.length=11) (hlb:cb.length=11) (hoa:∀v∈ca,v.oneCell'=true) (hob:∀v∈cb,v.oneCell'=true):
  Calls Tryz.prog 89 #[.agg (AC e vm vb (.slice (some ⟨b,o,none⟩) 2 c)).toArray,.int .i64 f] w fun e' w'=>e'= .returned (.tuple #[.agg ca.toArray,.agg cb.toArray,.bool true])∧A4 w w':=by
 obtain⟨hb1,hb2,hb3,hG⟩:=Ci w 29 29 29 (AC e vm vb (.slice (some ⟨b,o,none⟩) 2 c)).toArray (AJ 0 0).toArray (AJ 0 0).toArray;have hs3:(((w.alloc (.cells (AC e vm vb (.slice (some ⟨b,o,none⟩) 2 c)).toArray 29)).alloc (.cells (AJ 0 0).toArray 29)).alloc (.cells (AJ 0 0).toArray 29)).heap.size=w.heap.size+3:=by simp
 go_enter Tryz.func89,Tryz.ntmps89;go_upto_region 1 with fail;change Code.wp _ _ _ _ (((w.alloc (.cells (AC e vm vb (.slice (some ⟨b,o,none⟩) 2 c)).toArray 29)).alloc (.cells (AJ 0 0).toArray 29)).alloc (.cells (AJ 0 0).toArray 29));generalize ((w.alloc (.cells (AC e vm vb (.slice (some ⟨b,o,none⟩) 2 c)).toArray 29)).alloc (.cells (AJ 0 0).toArray 29)).alloc (.cells (AJ 0 0).toArray 29)=w1 at*;have c0:w1.cell? ⟨w.heap.size,0,none⟩=some (.int .i64 3):=by rw[←h3];exact hb1.cell 0
 have c1:w1.cell? ⟨w.heap.size,1,none⟩=some (.int .i64 f):=by rw[←hf];exact hb1.cell 1
 have t1:(f==f)=true:=by simp
 have t1':(f !=f)=false:=by rw[bne,t1];rfl
 have HS:=V3 hs3;have HB:=V3 (V5 hb1 (V5 hb2 (V5 hb3 hG)));have HA:=V3 (show ∀w',AA (fun i=>i=w.heap.size+1∨i=w.heap.size+1+1) w1 w'→w'.cell? ⟨w.heap.size,10,none⟩=some (.slice (some ⟨b,o,none⟩) 2 c)∧w'.rangeAt b o ca∧w'.rangeAt b (o+11) cb from fun w' k=>⟨(hb1.keep k (by omega)).cell 10,AU (AU hra hbw hG (fun h=>h)) (by omega) k (by omega),AU (AU hrb hbw hG (fun h=>h)) (by omega) k (by omega)⟩);clear hb1 hb2 hb3 hG hs3 hra hrb hbw h3 hf;go_upto_region 3 with fail;refine C6 [(9,fun w'=>w'.cell? ⟨w.heap.size,10,none⟩=some (.slice (some ⟨b,o,none⟩) 2 c)∧w'.rangeAt b o ca∧w'.rangeAt b (o+11) cb)] (by kernel_rfl) (by intro pp hp;obtain rfl:=VF.1 hp;exact HA.out _ (VX (VY _ w1))) ?_;intro hcl hkn
 refine' AV (i:=0) (v:=_) rfl (by kernel_rfl) (by kernel_rfl) (by kernel_rfl) hcl hkn (by rfl) (fun _ _ _ h=>h) rfl ?_ ?_
 rotate_left
 ·intro w';go_simp;try with_reducible rfl
 clear hcl hkn;intro hcl hkn
 try simp only[List.getElem_toArray,List.getElem_cons_zero,List.getElem_cons_succ,Act.put,List.setIfInBounds_toArray,List.set_cons_zero,List.set_cons_succ]
 refine' DQ 9 _ (i:=1) (v:=_) rfl (by kernel_rfl) (by kernel_rfl) (by kernel_rfl) hcl hkn (by rfl) 0 rfl (by kernel_rfl) (fun _ _ _ h=>h) rfl ?_ ?_
 rotate_left
 ·rintro w' hA;have hc9:=hA.1;go_simp;try with_reducible rfl
 clear hcl hkn;intro hcl hkn
 try simp only[List.getElem_toArray,List.getElem_cons_zero,List.getElem_cons_succ,Act.put,List.setIfInBounds_toArray,List.set_cons_zero,List.set_cons_succ]
 refine' AV (i:=2) (v:=_) rfl (by kernel_rfl) (by kernel_rfl) (by kernel_rfl) hcl hkn (by rfl) (fun _ _ _ h=>h) rfl ?_ ?_
 rotate_left
 ·intro w';go_simp;try with_reducible rfl
 clear hcl hkn;intro hcl hkn
 try simp only[List.getElem_toArray,List.getElem_cons_zero,List.getElem_cons_succ,Act.put,List.setIfInBounds_toArray,List.set_cons_zero,List.set_cons_succ]
 refine Bg 9 _ (i:=3) rfl (by kernel_rfl) (by kernel_rfl) (by kernel_rfl) hcl hkn (by rfl) 0 rfl (by kernel_rfl) 29 (.tmp 20) rfl b (o) rfl ca _ (fun w h=>h.2.1) Tryz.underlying29 rfl (by rw[hla];exact AE) (fun _ _ _ h=>h) rfl ?_;clear hcl hkn;intro hcl hkn
 try simp only[List.getElem_toArray,List.getElem_cons_zero,List.getElem_cons_succ,Act.put,List.setIfInBounds_toArray,List.set_cons_zero,List.set_cons_succ]
 refine' AV (i:=4) (v:=_) rfl (by kernel_rfl) (by kernel_rfl) (by kernel_rfl) hcl hkn (by rfl) (fun _ _ _ h=>h) rfl ?_ ?_
 rotate_left
 ·intro w';go_simp;try with_reducible rfl
 clear hcl hkn;intro hcl hkn
 try simp only[List.getElem_toArray,List.getElem_cons_zero,List.getElem_cons_succ,Act.put,List.setIfInBounds_toArray,List.set_cons_zero,List.set_cons_succ]
 refine' DQ 9 _ (i:=5) (v:=_) rfl (by kernel_rfl) (by kernel_rfl) (by kernel_rfl) hcl hkn (by rfl) 0 rfl (by kernel_rfl) (fun _ _ _ h=>h) rfl ?_ ?_
 rotate_left
 ·rintro w' hA;have hc9:=hA.1;go_simp;try with_reducible rfl
 clear hcl hkn;intro hcl hkn
 try simp only[List.getElem_toArray,List.getElem_cons_zero,List.getElem_cons_succ,Act.put,List.setIfInBounds_toArray,List.set_cons_zero,List.set_cons_succ]
 refine' AV (i:=6) (v:=_) rfl (by kernel_rfl) (by kernel_rfl) (by kernel_rfl) hcl hkn (by rfl) (fun _ _ _ h=>h) rfl ?_ ?_
 rotate_left
 ·intro w';go_simp;try with_reducible rfl
 clear hcl hkn;intro hcl hkn
 try simp only[List.getElem_toArray,List.getElem_cons_zero,List.getElem_cons_succ,Act.put,List.setIfInBounds_toArray,List.set_cons_zero,List.set_cons_succ]
 refine Bg 9 _ (i:=7) rfl (by kernel_rfl) (by kernel_rfl) (by kernel_rfl) hcl hkn (by rfl) 0 rfl (by kernel_rfl) 29 (.tmp 24) rfl b (o+11) rfl cb _ (fun w h=>h.2.2) Tryz.underlying29 rfl (by rw[hlb];exact AE) (fun _ _ _ h=>h) rfl ?_;clear hcl hkn;intro hcl hkn
 try simp only[List.getElem_toArray,List.getElem_cons_zero,List.getElem_cons_succ,Act.put,List.setIfInBounds_toArray,List.set_cons_zero,List.set_cons_succ]
 refine BF hcl (i:=8) (by kernel_rfl) rfl rfl (fun K hK=>?_);refine EU 29 (.tmp 4) (.tmp 21) (w.heap.size+1) ca (AJ 0 0) 29 (by rw[hla];exact AE) (by rw[hla];rfl) hoa rfl rfl rfl (HB.out.2.1.drew) ?_;intro w8 hb8 k8;refine hK _ _ (Aw (.inr (HA.out w8 (VV (VX (VY _ w1)) k8 fun i hi e=> .inl e)))) ?_;have hb38:=HB.out.2.2.1.drew.keep k8 (by omega);clear hK K;clear hcl hkn;intro hcl hkn
 try simp only[List.getElem_toArray,List.getElem_cons_zero,List.getElem_cons_succ,Act.put,List.setIfInBounds_toArray,List.set_cons_zero,List.set_cons_succ]
 refine BF hcl (i:=9) (by kernel_rfl) rfl rfl (fun K hK=>?_);refine EU 29 (.tmp 5) (.tmp 25) (w.heap.size+1+1) cb (AJ 0 0) 29 (by rw[hlb];exact AE) (by rw[hlb];rfl) hob rfl rfl rfl hb38 ?_;intro w9 hb9 k9;refine hK _ _ (Aw (.inl (by kernel_rfl))) ?_;have hb89:=hb8.keep k9 (by omega);clear hK K;clear hcl hkn;intro hcl hkn
 try simp only[List.getElem_toArray,List.getElem_cons_zero,List.getElem_cons_succ,Act.put,List.setIfInBounds_toArray,List.set_cons_zero,List.set_cons_succ]
 refine' AV (i:=10) (v:=_) rfl (by kernel_rfl) (by kernel_rfl) (by kernel_rfl) hcl hkn (by rfl) (fun _ _ _ h=>h) rfl ?_ ?_
 rotate_left
 ·intro w';go_simp;try with_reducible rfl
 clear hcl hkn;intro hcl hkn
 try simp only[List.getElem_toArray,List.getElem_cons_zero,List.getElem_cons_succ,Act.put,List.setIfInBounds_toArray,List.set_cons_zero,List.set_cons_succ]
 refine Ca (by kernel_rfl) ?_ _;go_wp2_with fail;refine bodyPost_ret (F4 rfl rfl rfl rfl (by rw[hla];exact AE) (by rw[hlb];exact AE) Tryz.underlying29 rfl hb89 hb9) rfl ?_;exact⟨rfl,VV (VV (VX HB.out.2.2.2) k8 fun i hi e=>by omega) k9 fun i hi e=>by omega⟩
mutual
def BJ:Ex→Bool
 | .mk k _ _ _ _ _ _ _ _ _ ks=>decide (k=0)||(decide (k=3)&&Jg ks)
def Jg:List Ex→Bool
 |[]=>true
 |e::es=>BJ e&&Jg es
end
theorem DA (e:Ex):BJ e=(decide (e.kind=0)||(decide (e.kind=3)&&Jg e.kids)):=by cases e;rw[BJ];rfl
theorem Ep (a b:Ex):Jg [a,b]=(BJ a&&BJ b):=by unfold Jg Jg Jg;simp
def He (e:Ex):Prop:=e.kind=3→∃a b,e.kids=[a,b]
theorem Fm {w:World} {B:Nat} {e ea eb:Ex} {v:Value} (hT:JG w B v e.kids) (hk:e.kids=[ea,eb]):∃b o c ca cb,v= .slice (some ⟨b,o,none⟩) 2 c∧b<B∧w.rangeAt b o ca∧w.rangeAt b (o+11) cb∧BU w B ea ca∧BU w B eb cb:=by
 obtain⟨A,n,c,rfl,hn2, -⟩:=hT.slice;obtain rfl:n=2:=by rw[hn2,hk];rfl
 rw[hk]at hT;obtain⟨b,o,ca,rfl,hbb,hra,hea⟩:=hT.at_ (j:=0) (e:=ea) rfl;obtain⟨b',o',cb,hbo, -,hrb,heb⟩:=hT.at_ (j:=1) (e:=eb) rfl;simp only[VQ,Addr.mk.injEq,and_true]at hbo;obtain⟨rfl,rfl⟩:=hbo;rw[Nat.zero_mul,Nat.add_zero]at hra;rw[Nat.one_mul]at hrb;exact⟨b,o,c,ca,cb,rfl,hbb,hra,hrb,hea,heb⟩
theorem RT {w:World} {B:Nat} {e ea:Ex} {v:Value} (hT:JG w B v e.kids) (hk:e.kids=[ea]):∃b o c ca,v= .slice (some ⟨b,o,none⟩) 1 c∧b<B∧w.rangeAt b o ca∧BU w B ea ca:=by
 obtain⟨A,n,c,rfl,hn2, -⟩:=hT.slice;obtain rfl:n=1:=by rw[hn2,hk];rfl
 rw[hk]at hT;obtain⟨b,o,ca,rfl,hbb,hra,hea⟩:=hT.at_ (j:=0) (e:=ea) rfl;rw[Nat.zero_mul,Nat.add_zero]at hra;exact⟨b,o,c,ca,rfl,hbb,hra,hea⟩
theorem Dh:∀(k:Nat) (e:Ex),AH e≤k→BW He e→∀(w:World) (cs:List Value),BU w w.heap.size e cs→
  Calls Tryz.prog 87 #[.agg cs.toArray] w fun e' w'=>e'= .returned (.bool (BJ e))∧A4 w w'
 |0,e,h,_,_,_,_=>absurd (Aj e) (by omega)
 |k+1,e,hk,h2,w,cs,hr=>by
  obtain⟨vm,vb,vk,rfl, -, -,hT⟩:=hr.open_;have hne:=Az e;by_cases h0:e.kind=0
  ·have hF:BJ e=true:=by rw[DA];simp[h0]
   have t0:(e.kind==0)=true:=by rw[VC];exact h0
   have hb:=VW w 29 (AC e vm vb vk).toArray;have hg:=(VU w).alloc (.cells (AC e vm vb vk).toArray 29);rw[hF];clear hr hT hk h2 hne h0 hF;go_enter Tryz.func87,Tryz.ntmps87;go_upto_region 1 with fail;change Code.wp _ _ _ _ (w.alloc (.cells (AC e vm vb vk).toArray 29));generalize w.alloc (.cells (AC e vm vb vk).toArray 29)=w1 at*;have c0:w1.cell? ⟨w.heap.size,0,none⟩=some (.int .i64 e.kind):=hb.cell 0;have HG:=V3 hg;clear hb hg;go_wp2_with fail;go_ret;exact⟨rfl,HG.out⟩
  have t0:(e.kind==0)=false:=by rw[V4];exact h0
  by_cases h3:e.kind=3
  ·obtain⟨ea,eb,hks⟩:=h2.top h3;have hna:=AT (show ea∈e.kids by rw[hks];simp);have hnb:=AT (show eb∈e.kids by rw[hks];simp);have hF:BJ e=(BJ ea&&BJ eb):=by rw[DA,hks,Ep];simp[h3]
   have t3:(e.kind==3)=true:=by rw[VC];exact h3
   obtain⟨b,o,c,ca,cb,rfl,hbb,hra,hrb,hea,heb⟩:=Fm hT hks;have HA:=V3 (fun w' (g:A4 w w')=>Dh k ea (by omega) (h2.kid (by rw[hks];simp)) w' ca (hea.grew g));have HB:=V3 (fun w' (g:A4 w w')=>Dh k eb (by omega) (h2.kid (by rw[hks];simp)) w' cb (heb.grew g));have HL:=V3 (V5 (BC hea) (BC heb));have HRa:=V3 (show ∀w',A4 w w'→w'.rangeAt b o ca∧w'.rangeAt b (o+11) cb from fun w' g=>⟨AU hra hbb g (fun h=>h),AU hrb hbb g (fun h=>h)⟩);have hb:=VW w 29 (AC e vm vb (.slice (some ⟨b,o,none⟩) 2 c)).toArray;have hg:=(VU w).alloc (.cells (AC e vm vb (.slice (some ⟨b,o,none⟩) 2 c)).toArray 29);obtain⟨x,hx⟩:∃x,BJ ea=x:=⟨_,rfl⟩;obtain⟨y,hy⟩:∃y,BJ eb=y:=⟨_,rfl⟩;rw[hx]at HA hF;rw[hy]at HB hF;rw[hF];clear hr hT hk h2 hne h0 h3 hF hna hnb hra hrb hea heb hks hx hy;go_enter Tryz.func87,Tryz.ntmps87;go_upto_region 1 with fail;change Code.wp _ _ _ _ (w.alloc (.cells (AC e vm vb (.slice (some ⟨b,o,none⟩) 2 c)).toArray 29));generalize w.alloc (.cells (AC e vm vb (.slice (some ⟨b,o,none⟩) 2 c)).toArray 29)=w1 at*;have c0:w1.cell? ⟨w.heap.size,0,none⟩=some (.int .i64 e.kind):=hb.cell 0;have HG:=V3 hg;have HBx:=V3 hb;clear hb hg;go_upto_region 5 with fail;rcases x with _|_
   ·refine CY [.pointer (some ⟨w.heap.size,10,none⟩),.slice (some ⟨b,o,none⟩) 2 c,.pointer (some ⟨b,o,none⟩),.agg ca.toArray,.bool false,.bool false,undef,undef,undef,undef,undef,.bool false,.bool false] _ (by kernel_rfl) (by kernel_rfl) rfl ?sH ?sT
    case sH=>
     simp only[List.toList_toArray,List.append_eq,List.cons_append,List.nil_append,Af,Act.put,List.setIfInBounds_toArray,List.set_cons_zero,List.set_cons_succ];refine AD (by kernel_rfl) (fun w' hg=>?_) ?_
     ·go_simp;exact VU _
     refine AD (by kernel_rfl) (fun w' hg=>?_) ?_
     ·have hc:w'.cell? ⟨w.heap.size,10,none⟩=some (.slice (some ⟨b,o,none⟩) 2 c):=(HBx.out.grew hg).cell 10;exact IL 27 (.tmp 9) (fun w v h=>by simp[go_sem,h]) rfl (by kernel_rfl) hc ⟨by kernel_rfl,VU _⟩
     refine AD (by kernel_rfl) (fun w' hg=>?_) ?_
     ·go_simp;exact VU _
     refine AD (by kernel_rfl) (fun w' hg=>?_) ?_
     ·refine wp_load_mid 29 (.tmp 11) rfl b (o) rfl ca _ (HRa.out w' (HG.out.trans hg)).1 Tryz.underlying29 rfl (by rw[HL.out.1];exact AE) ?_;exact⟨rfl,VU _⟩
     refine AD (by kernel_rfl) (fun w' hg=>?_) ?_
     ·go_simp;(with_reducible refine(HA.out _ (HG.out.trans hg)).mono ?_);rintro e wq ⟨rfl,kq⟩;exact⟨rfl,kq⟩
     refine AD (by kernel_rfl) (fun w' hg=>?_) ?_
     ·go_simp;exact VU _
     refine BS (by kernel_rfl) (by kernel_rfl) ?_;refine BS (by kernel_rfl) (by kernel_rfl) ?_;refine BS (by kernel_rfl) (by kernel_rfl) ?_;refine BS (by kernel_rfl) (by kernel_rfl) ?_;refine BS (by kernel_rfl) (by kernel_rfl) ?_;refine AD (by kernel_rfl) (fun w' hg=>?_) ?_
     ·go_simp;exact VU _
     refine AD (by kernel_rfl) (fun w' hg=>?_) ?_
     ·go_simp;exact VU _
     exact AK
    case sT=>
     intro w9 hg9;simp only[List.toList_toArray,List.append_eq,List.cons_append,List.nil_append,Af,Act.put,List.setIfInBounds_toArray,List.set_cons_zero,List.set_cons_succ];go_wp2_with fail;go_ret;exact⟨rfl,HG.out.trans hg9⟩
   refine CY [.pointer (some ⟨w.heap.size,10,none⟩),.slice (some ⟨b,o,none⟩) 2 c,.pointer (some ⟨b,o,none⟩),.agg ca.toArray,.bool true,.bool true,.pointer (some ⟨w.heap.size,10,none⟩),.slice (some ⟨b,o,none⟩) 2 c,.pointer (some ⟨b,o+11,none⟩),.agg cb.toArray,.bool y,.bool y,.bool y] _ (by kernel_rfl) (by kernel_rfl) rfl ?sH ?sT
   case sH=>
    simp only[List.toList_toArray,List.append_eq,List.cons_append,List.nil_append,Af,Act.put,List.setIfInBounds_toArray,List.set_cons_zero,List.set_cons_succ];refine AD (by kernel_rfl) (fun w' hg=>?_) ?_
    ·go_simp;exact VU _
    refine AD (by kernel_rfl) (fun w' hg=>?_) ?_
    ·have hc:w'.cell? ⟨w.heap.size,10,none⟩=some (.slice (some ⟨b,o,none⟩) 2 c):=(HBx.out.grew hg).cell 10;exact IL 27 (.tmp 9) (fun w v h=>by simp[go_sem,h]) rfl (by kernel_rfl) hc ⟨by kernel_rfl,VU _⟩
    refine AD (by kernel_rfl) (fun w' hg=>?_) ?_
    ·go_simp;exact VU _
    refine AD (by kernel_rfl) (fun w' hg=>?_) ?_
    ·refine wp_load_mid 29 (.tmp 11) rfl b (o) rfl ca _ (HRa.out w' (HG.out.trans hg)).1 Tryz.underlying29 rfl (by rw[HL.out.1];exact AE) ?_;exact⟨rfl,VU _⟩
    refine AD (by kernel_rfl) (fun w' hg=>?_) ?_
    ·go_simp;(with_reducible refine(HA.out _ (HG.out.trans hg)).mono ?_);rintro e wq ⟨rfl,kq⟩;exact⟨rfl,kq⟩
    refine AD (by kernel_rfl) (fun w' hg=>?_) ?_
    ·go_simp;exact VU _
    refine AD (by kernel_rfl) (fun w' hg=>?_) ?_
    ·go_simp;exact VU _
    refine AD (by kernel_rfl) (fun w' hg=>?_) ?_
    ·have hc:w'.cell? ⟨w.heap.size,10,none⟩=some (.slice (some ⟨b,o,none⟩) 2 c):=(HBx.out.grew hg).cell 10;exact IL 27 (.tmp 15) (fun w v h=>by simp[go_sem,h]) rfl (by kernel_rfl) hc ⟨by kernel_rfl,VU _⟩
    refine AD (by kernel_rfl) (fun w' hg=>?_) ?_
    ·go_simp;exact VU _
    refine AD (by kernel_rfl) (fun w' hg=>?_) ?_
    ·refine wp_load_mid 29 (.tmp 17) rfl b (o+11) rfl cb _ (HRa.out w' (HG.out.trans hg)).2 Tryz.underlying29 rfl (by rw[HL.out.2];exact AE) ?_;exact⟨rfl,VU _⟩
    refine AD (by kernel_rfl) (fun w' hg=>?_) ?_
    ·go_simp;(with_reducible refine(HB.out _ (HG.out.trans hg)).mono ?_);rintro e wq ⟨rfl,kq⟩;exact⟨rfl,kq⟩
    refine AD (by kernel_rfl) (fun w' hg=>?_) ?_
    ·go_simp;exact VU _
    refine AD (by kernel_rfl) (fun w' hg=>?_) ?_
    ·go_simp;exact VU _
    exact AK
   case sT=>
    intro w9 hg9;simp only[List.toList_toArray,List.append_eq,List.cons_append,List.nil_append,Af,Act.put,List.setIfInBounds_toArray,List.set_cons_zero,List.set_cons_succ];go_wp2_with fail;go_ret;exact⟨rfl,HG.out.trans hg9⟩
  have hF:BJ e=false:=by rw[DA];simp[h0,h3]
  have t3:(e.kind==3)=false:=by rw[V4];exact h3
  have hb:=VW w 29 (AC e vm vb vk).toArray;have hg:=(VU w).alloc (.cells (AC e vm vb vk).toArray 29);rw[hF];clear hr hT hk h2 hne h0 h3 hF;go_enter Tryz.func87,Tryz.ntmps87;go_upto_region 1 with fail;change Code.wp _ _ _ _ (w.alloc (.cells (AC e vm vb vk).toArray 29));generalize w.alloc (.cells (AC e vm vb vk).toArray 29)=w1 at*;have c0:w1.cell? ⟨w.heap.size,0,none⟩=some (.int .i64 e.kind):=hb.cell 0;have HG:=V3 hg;clear hb hg;go_wp2_with fail;go_ret;exact⟨rfl,HG.out⟩
end Go.Proofs.YthpflelgbadkcaaGreatDoor
namespace Go.Proofs.YthpflelgbadkcaaGreatDoor
open Go.Shelf
def KF:Go.Shelf.Ren:=⟨fun|156=>136|165=>151|166=>132|169=>103|240=>149|241=>162|276=>161|277=>169|n=>n,fun|31=>26|9=>9|3=>3|4=>4|0=>0|20=>20|72=>156|76=>190|70=>153|37=>154|75=>189|127=>193|164=>211|5=>5|80=>159|n=>n,fun|n=>n⟩
theorem Sn:Go.Proofs.Lays.n156 Tryz.prog KF:={
 mixed:=by kernel_rfl
 f156:=Tryz.func136.trans (congrArg some (by kernel_rfl))
 f165:=Tryz.func151.trans (congrArg some (by kernel_rfl))
 f166:=Tryz.func132.trans (congrArg some (by kernel_rfl))
 f169:=Tryz.func103.trans (congrArg some (by kernel_rfl))
 f240:=Tryz.func149.trans (congrArg some (by kernel_rfl))
 f241:=Tryz.func162.trans (congrArg some (by kernel_rfl))
 f276:=Tryz.func161.trans (congrArg some (by kernel_rfl))
 f277:=Tryz.func169.trans (congrArg some (by kernel_rfl))
 t0:=Tryz.underlying0
 a0:=Tryz.isAgg0
 z0:=Tryz.sizeOf0
 v0:=Tryz.zeroValue0
 t3:=Tryz.underlying3
 a3:=Tryz.isAgg3
 z3:=Tryz.sizeOf3
 v3:=Tryz.zeroValue3
 t4:=Tryz.underlying4
 a4:=Tryz.isAgg4
 z4:=Tryz.sizeOf4
 v4:=Tryz.zeroValue4
 t9:=Tryz.underlying9
 a9:=Tryz.isAgg9
 z9:=Tryz.sizeOf9
 v9:=Tryz.zeroValue9
 t20:=Tryz.underlying20
 a20:=Tryz.isAgg20
 z20:=Tryz.sizeOf20
 v20:=Tryz.zeroValue20
 t31:=Tryz.underlying26
 a31:=Tryz.isAgg26
 z31:=Tryz.sizeOf26
 v31:=Tryz.zeroValue26
 t37:=Tryz.underlying154
 a37:=Tryz.isAgg154
 z37:=Tryz.sizeOf154
 v37:=Tryz.zeroValue154
 t70:=Tryz.underlying153
 a70:=Tryz.isAgg153
 z70:=Tryz.sizeOf153
 v70:=Tryz.zeroValue153
 t72:=Tryz.underlying156
 a72:=Tryz.isAgg156
 z72:=Tryz.sizeOf156
 v72:=Tryz.zeroValue156
 t75:=Tryz.underlying189
 a75:=Tryz.isAgg189
 z75:=Tryz.sizeOf189
 v75:=Tryz.zeroValue189
 t76:=Tryz.underlying190
 a76:=Tryz.isAgg190
 z76:=Tryz.sizeOf190
 v76:=Tryz.zeroValue190
 t127:=Tryz.underlying193
 a127:=Tryz.isAgg193
 z127:=Tryz.sizeOf193
 v127:=Tryz.zeroValue193
 t164:=Tryz.underlying211
 a164:=Tryz.isAgg211
 z164:=Tryz.sizeOf211
 v164:=Tryz.zeroValue211 }
end Go.Proofs.YthpflelgbadkcaaGreatDoor
namespace Go.Proofs.YthpflelgbadkcaaGreatDoor
open Go.RowKit Pl Go.Shelf
theorem Sk:Builder.Extra Tryz.prog KF:={
 sizeBuilder:=by kernel_rfl
 liesBuilder:=by kernel_rfl
 t5:=Tryz.underlying5
 a5:=Tryz.isAgg5
 z5:=Tryz.sizeOf5
 v5:=Tryz.zeroValue5
 infoByte:=by kernel_rfl
 cellsByte:=by kernel_rfl
 sizeByte:=by kernel_rfl
 neB5:=by decide }
theorem QY {bys:List ByteArray} (hb:Pu bys) {w:World} {v:Value} (hr:Cg w w.heap.size 1 v (bys.map fun s=>[Value.string s])):
  Calls Tryz.prog 136 #[v,.string ⟨#[44]⟩] w fun e w'=>e= .returned (.string (IQ bys))∧A4 w w':=by
 obtain⟨A,c,rfl,hc,hx⟩:=hr;rw[List.length_map]at hc hx ⊢;by_cases h0:bys.length=0
 ·obtain rfl:=List.length_eq_zero_iff.1 h0;refine(Any.strings_Join_none Sn Sk A c ⟨#[44]⟩ w:Calls _ _ _ _ _).mono ?_;rintro e w' ⟨rfl,rfl⟩;exact⟨rfl,VU _⟩
 obtain⟨b,o,rfl,hbb,hcell⟩:=hx (by omega);have hlen:(IQ bys).size=(Lib.join (bys.map (·.data.toList)) [44]).length:=by
  unfold IQ;show(List.toArray _).size=_;rw[List.size_toArray]
 refine(Any.strings_Join Sn Sk b o c bys ⟨#[44]⟩ w (fun j x hj=>?_) hbb (by have:=hb.1;omega) hc ?_:Calls _ _ _ _ _).mono ?_
 ·have:=hcell j [Value.string x] (by rw[List.getElem?_map,hj];rfl) 0 (.string x) rfl;rwa[Nat.mul_one,Nat.add_zero]at this
 ·have:=hb.2;show(Lib.join (bys.map (·.data.toList)) [44]).length≤_;omega
 rintro e w' ⟨rfl,bel⟩;exact⟨rfl,A4.of_below bel⟩
end Go.Proofs.YthpflelgbadkcaaGreatDoor
