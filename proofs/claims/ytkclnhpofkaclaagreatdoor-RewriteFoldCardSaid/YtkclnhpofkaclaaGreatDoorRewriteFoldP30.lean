/- What the card of the law stands on: Rw1, Rw2, Rw3. -/
import Derived.Test.YtkclnhpofkaclaaGreatDoorRewriteFoldP15
import Derived.Test.YtkclnhpofkaclaaGreatDoorRewriteFoldP01
import Derived.Test.YtkclnhpofkaclaaGreatDoorRewriteFoldP04
import Derived.Test.YtkclnhpofkaclaaGreatDoorRewriteFoldP28
import Derived.Test.YtkclnhpofkaclaaGreatDoorRewriteFoldP29
import Derived.Test.YtkclnhpofkaclaaGreatDoorRewriteFoldP03
import Derived.Test.YtkclnhpofkaclaaGreatDoorRewriteFoldP14
set_option maxRecDepth 100000
set_option maxHeartbeats 12800000
set_option linter.unusedVariables false
set_option linter.unusedSimpArgs false
namespace Go.Proofs.YtkclnhpofkaclaaGreatDoor
open Go.RowKit Pl
def Io (e:Ex) (n:Int):Bool:=decide (e.kind=0∧e.num=n∧e.den=1)
theorem LN (a b:Int) (w:World):(Instr.build 24 #[(0,.int .i64 a),(1,.int .i64 b)]).run Tryz.prog w= .ok (.agg (AA a b).toArray) w:=by kernel_rfl
theorem CD (e:Ex) (n:Int) (cs:List Value) (w:World) (B:Nat) (hr:BC w B e cs):Calls Tryz.prog 59 #[.agg cs.toArray,.int .i64 n] w fun e' w'=>e'= .returned (.bool (Io e n))∧A5 w w':=by
 obtain⟨vm,vb,vk,rfl, -⟩:=hr.open_;have hb:=Ux w 29 (A8 e vm vb vk).toArray;have hg:=(Uv w).alloc (.cells (A8 e vm vb vk).toArray 29);clear hr;go_enter Tryz.func59,Tryz.ntmps59;go_upto_region 1 with fail;change Code.wp _ _ _ _ (w.alloc (.cells (A8 e vm vb vk).toArray 29));generalize w.alloc (.cells (A8 e vm vb vk).toArray 29)=w1 at*;have c0:w1.cell? ⟨w.heap.size,0,none⟩=some (.int .i64 e.kind):=hb.cell 0;have r1:w1.rangeAt w.heap.size 5 (AA e.num e.den):=hb.rangeN 5 _ rfl;have HG:=UX hg;clear hb hg;by_cases h0:e.kind=0
 ·have t0:(e.kind==0)=true:=by rw[Ud];exact h0
  obtain⟨r,hr⟩:∃r:Bool,decide (e.num=n∧e.den=1)=r:=⟨_,rfl⟩;have HF:=UX (show Io e n=r from by unfold Io;rw[←hr];simp[h0]);have t5:∀w,(binOp .eql 24 (.agg (AA e.num e.den).toArray) (.agg #[.int .i64 n,.int .i64 1])).run Tryz.prog w= .ok (.bool r) w:=fun w=>Dw e.num e.den n 1 r hr w
  have hbd:=fun w=>LN n 1 w
  clear h0 hr;go_wp2_with(first|((with_reducible refine CW 24 (.tmp 9) rfl ?_);refine TP 24 (.tmp 9) rfl rfl Tryz.underlying24 rfl (w.heap.size) 5 (AA e.num e.den) C1 rfl r1 ?_));go_ret;exact⟨by rw[HF.out];rfl,HG.out⟩
 have t0:(e.kind==0)=false:=by rw[UY];exact h0
 have HF:=UX (show Io e n=false from by unfold Io;simp[h0]);clear h0;go_wp2_with fail;go_ret;exact⟨by rw[HF.out];rfl,HG.out⟩
theorem EW {fn:Func} {p q r:Tmp} {ty:TypeId} (h:fn.results=#[.cell p ty,.cell q ty,.tmp r]) {tmps:Array Value} {w:World} {a b:Nat} {xs ys:List Value} {v:Value} {t:TypeId} (hp:tmps.getD p undef= .pointer (some ⟨a,0,none⟩)) (hq:tmps.getD q undef= .pointer (some ⟨b,0,none⟩)) (hr:tmps.getD r undef=v)
  (hT:(Tryz.prog.info? ty).map (·.size)=some xs.length) (hT2:(Tryz.prog.info? ty).map (·.size)=some ys.length) {d:TypeDesc} (hu:Tryz.prog.underlying ty=some d) (hd:d.isRow=true) (ha:AK w a t xs.toArray) (hb:AK w b t ys.toArray):
  (results fn tmps).run Tryz.prog w= .ok (.tuple #[.agg xs.toArray,.agg ys.toArray,v]) w:=by
 have hl:=run_loadVar_mid (P:=Tryz.prog) w a 0 ty xs d (ha.rangeN 0 xs (by simp)) hu hd hT;have hl2:=run_loadVar_mid (P:=Tryz.prog) w b 0 ty ys d (hb.rangeN 0 ys (by simp)) hu hd hT2;simp only[results,h];rw[Array.getD_eq_getD_getElem?]at hp hq hr
 first|(simp[hp,hq,hr,Result.andThen,hl,hl2,asAddr];done)|(simp[Sem.run_bind,hp,hq,hr,Result.andThen,hl,hl2,asAddr];done)|(simp only[Sem.run_bind];simp[hp,hq,hr,Result.andThen,hl,hl2,asAddr])
theorem P2 (e:Ex) (f:Int) (cs:List Value) (w:World) (B:Nat) (hr:BC w B e cs) (hn:¬(e.kind=3∧e.fn=f)):Calls Tryz.prog 64 #[.agg cs.toArray,.int .i64 f] w fun e' w'=>e'= .returned (.tuple #[.agg (AE 0 0).toArray,.agg (AE 0 0).toArray,.bool false])∧A5 w w':=by
 obtain⟨vm,vb,vk,rfl, -⟩:=hr.open_;obtain⟨hb1,hb2,hb3,hG⟩:=BO w 29 29 29 (A8 e vm vb vk).toArray (AE 0 0).toArray (AE 0 0).toArray;clear hr;go_enter Tryz.func64,Tryz.ntmps64;go_upto_region 1 with fail;change Code.wp _ _ _ _ (((w.alloc (.cells (A8 e vm vb vk).toArray 29)).alloc (.cells (AE 0 0).toArray 29)).alloc (.cells (AE 0 0).toArray 29));generalize ((w.alloc (.cells (A8 e vm vb vk).toArray 29)).alloc (.cells (AE 0 0).toArray 29)).alloc (.cells (AE 0 0).toArray 29)=w1 at*;have c0:w1.cell? ⟨w.heap.size,0,none⟩=some (.int .i64 e.kind):=hb1.cell 0;have c1:w1.cell? ⟨w.heap.size,1,none⟩=some (.int .i64 e.fn):=hb1.cell 1;have HG:=UX hG;clear hb1 hG;by_cases h3:e.kind=3
 ·have t0:(e.kind==3)=true:=by rw[Ud];exact h3
  have t0':(e.kind !=3)=false:=by rw[bne,t0];rfl
  have t1:(e.fn==f)=false:=by rw[UY];exact fun h=>hn ⟨h3,h⟩
  have t1':(e.fn !=f)=true:=by rw[bne,t1];rfl
  clear h3 hn;go_wp2_with(first|(refine sN (.tmp 4) (.tmp 16) (AE 0 0) hb2 rX ?_;intro w8 hb8 k8 d8;have hb38:=hb3.keep k8 (by omega))|(refine sN (.tmp 5) (.tmp 17) (AE 0 0) hb38 rX ?_;intro w9 hb9 k9 d9;have hb89:=hb8.keep k9 (by omega))|fail);refine bodyPost_ret (EW rfl rfl rfl rfl Bd Bd Tryz.underlying29 rfl hb89 hb9) rfl ?_;exact⟨rfl,Uw (Uw HG.out k8 fun i hi e=>by omega) k9 fun i hi e=>by omega⟩
 have t0:(e.kind==3)=false:=by rw[UY];exact h3
 have t0':(e.kind !=3)=true:=by rw[bne,t0];rfl
 clear h3 hn;go_wp2_with(first|(refine sN (.tmp 4) (.tmp 16) (AE 0 0) hb2 rX ?_;intro w8 hb8 k8 d8;have hb38:=hb3.keep k8 (by omega))|(refine sN (.tmp 5) (.tmp 17) (AE 0 0) hb38 rX ?_;intro w9 hb9 k9 d9;have hb89:=hb8.keep k9 (by omega))|fail);refine bodyPost_ret (EW rfl rfl rfl rfl Bd Bd Tryz.underlying29 rfl hb89 hb9) rfl ?_;exact⟨rfl,Uw (Uw HG.out k8 fun i hi e=>by omega) k9 fun i hi e=>by omega⟩
theorem NW (e:Ex) (f:Int) (vm vb:Value) (b o c:Nat) (ca cb:List Value) (w:World) (h3:e.kind=3) (hf:e.fn=f) (hbw:b<w.heap.size) (hra:w.rangeAt b o ca) (hrb:w.rangeAt b (o+11) cb) (hla:ca.length=11) (hlb:cb.length=11) (hoa:∀v∈ca,v.oneCell'=true) (hob:∀v∈cb,v.oneCell'=true):
  Calls Tryz.prog 64 #[.agg (A8 e vm vb (.slice (some ⟨b,o,none⟩) 2 c)).toArray,.int .i64 f] w fun e' w'=>e'= .returned (.tuple #[.agg ca.toArray,.agg cb.toArray,.bool true])∧A5 w w':=by
 obtain⟨hb1,hb2,hb3,hG⟩:=BO w 29 29 29 (A8 e vm vb (.slice (some ⟨b,o,none⟩) 2 c)).toArray (AE 0 0).toArray (AE 0 0).toArray;have hs3:(((w.alloc (.cells (A8 e vm vb (.slice (some ⟨b,o,none⟩) 2 c)).toArray 29)).alloc (.cells (AE 0 0).toArray 29)).alloc (.cells (AE 0 0).toArray 29)).heap.size=w.heap.size+3:=by simp
 go_enter Tryz.func64,Tryz.ntmps64;go_upto_region 1 with fail;change Code.wp _ _ _ _ (((w.alloc (.cells (A8 e vm vb (.slice (some ⟨b,o,none⟩) 2 c)).toArray 29)).alloc (.cells (AE 0 0).toArray 29)).alloc (.cells (AE 0 0).toArray 29));generalize ((w.alloc (.cells (A8 e vm vb (.slice (some ⟨b,o,none⟩) 2 c)).toArray 29)).alloc (.cells (AE 0 0).toArray 29)).alloc (.cells (AE 0 0).toArray 29)=w1 at*;have c0:w1.cell? ⟨w.heap.size,0,none⟩=some (.int .i64 3):=by rw[←h3];exact hb1.cell 0
 have c1:w1.cell? ⟨w.heap.size,1,none⟩=some (.int .i64 f):=by rw[←hf];exact hb1.cell 1
 have t1:(f==f)=true:=by simp
 have t1':(f !=f)=false:=by rw[bne,t1];rfl
 have HS:=UX hs3;have HB:=UX (UZ hb1 (UZ hb2 (UZ hb3 hG)));have HA:=UX (show ∀w',A4 (fun i=>i=w.heap.size+1∨i=w.heap.size+1+1) w1 w'→w'.cell? ⟨w.heap.size,10,none⟩=some (.slice (some ⟨b,o,none⟩) 2 c)∧w'.rangeAt b o ca∧w'.rangeAt b (o+11) cb from fun w' k=>⟨(hb1.keep k (by omega)).cell 10,AR (AR hra hbw hG (fun h=>h)) (by omega) k (by omega),AR (AR hrb hbw hG (fun h=>h)) (by omega) k (by omega)⟩);clear hb1 hb2 hb3 hG hs3 hra hrb hbw h3 hf;go_upto_region 3 with fail;refine lR 9 (fun w'=>w'.cell? ⟨w.heap.size,10,none⟩=some (.slice (some ⟨b,o,none⟩) 2 c)∧w'.rangeAt b o ca∧w'.rangeAt b (o+11) cb) (HA.out _ (Uy (Uz _ w1))) fun hcl hkn=>?_
 refine tP (i:=0) hcl hkn fun hcl hkn=>?_
 try simp only[nf]
 refine' D3 9 _ (i:=1) (v:=_) rfl (by kernel_rfl) (by kernel_rfl) (by kernel_rfl) hcl hkn (by rfl) 0 rfl (by kernel_rfl) (fun _ _ _ h=>h) rfl ?_ ?_
 rotate_left
 ·rintro w' hA;have hc9:=hA.1;go_simp;try with_reducible rfl
 clear hcl hkn;intro hcl hkn
 try simp only[nf]
 refine tP (i:=2) hcl hkn fun hcl hkn=>?_
 try simp only[nf]
 refine Bu (i:=3) 9 hcl hkn (.tmp 20) b (o) ca (fun w h=>h.2.1) hla fun hcl hkn=>?_
 try simp only[nf]
 refine tP (i:=4) hcl hkn fun hcl hkn=>?_
 try simp only[nf]
 refine' D3 9 _ (i:=5) (v:=_) rfl (by kernel_rfl) (by kernel_rfl) (by kernel_rfl) hcl hkn (by rfl) 0 rfl (by kernel_rfl) (fun _ _ _ h=>h) rfl ?_ ?_
 rotate_left
 ·rintro w' hA;have hc9:=hA.1;go_simp;try with_reducible rfl
 clear hcl hkn;intro hcl hkn
 try simp only[nf]
 refine tP (i:=6) hcl hkn fun hcl hkn=>?_
 try simp only[nf]
 refine Bu (i:=7) 9 hcl hkn (.tmp 24) b (o+11) cb (fun w h=>h.2.2) hlb fun hcl hkn=>?_
 try simp only[nf]
 refine oN (i:=8) hcl fun K hK=>?_
 refine sW (.tmp 4) (.tmp 21) ca (HB.out.2.1.drew) rX ?_ (hl:=hla) (h1:=hoa);intro w8 hb8 k8;refine hK _ _ (CX (.inr (HA.out w8 (Uw (Uy (Uz _ w1)) k8 fun i hi e=> .inl e)))) ?_;have hb38:=HB.out.2.2.1.drew.keep k8 (by omega);clear hK K;clear hcl hkn;intro hcl hkn
 try simp only[nf]
 refine oN (i:=9) hcl fun K hK=>?_
 refine sW (.tmp 5) (.tmp 25) cb hb38 rX ?_ (hl:=hlb) (h1:=hob);intro w9 hb9 k9;refine hK _ _ kl ?_;have hb89:=hb8.keep k9 (by omega);clear hK K;clear hcl hkn;intro hcl hkn
 try simp only[nf]
 refine tP (i:=10) hcl hkn fun hcl hkn=>?_
 try simp only[nf]
 refine aD ?_;go_wp2_with fail;refine bodyPost_ret (EW rfl rfl rfl rfl (by rw[hla];exact Bd) (by rw[hlb];exact Bd) Tryz.underlying29 rfl hb89 hb9) rfl ?_;exact⟨rfl,Uw (Uw (Uy HB.out.2.2.2) k8 fun i hi e=>by omega) k9 fun i hi e=>by omega⟩
mutual
def Db:Ex→Bool
 | .mk k _ _ _ _ _ _ _ _ _ ks=>decide (k=0)||(decide (k=3)&&Iv ks)
def Iv:List Ex→Bool
 |[]=>true
 |e::es=>Db e&&Iv es
end
theorem Jy (e:Ex):Db e=(decide (e.kind=0)||(decide (e.kind=3)&&Iv e.kids)):=by cases e;rw[Db];rfl
theorem Nc (a b:Ex):Iv [a,b]=(Db a&&Db b):=by unfold Iv Iv Iv;simp
def Ql (e:Ex):Prop:=e.kind=3→∃a b,e.kids=[a,b]
theorem LJ {w:World} {B:Nat} {e ea eb:Ex} {v:Value} (hT:Gw w B v e.kids) (hk:e.kids=[ea,eb]):∃b o c ca cb,v= .slice (some ⟨b,o,none⟩) 2 c∧b<B∧w.rangeAt b o ca∧w.rangeAt b (o+11) cb∧BC w B ea ca∧BC w B eb cb:=by
 obtain⟨A,n,c,rfl,hn2, -⟩:=hT.slice;obtain rfl:n=2:=by rw[hn2,hk];rfl
 rw[hk]at hT;obtain⟨b,o,ca,rfl,hbb,hra,hea⟩:=hT.at_ (j:=0) (e:=ea) rfl;obtain⟨b',o',cb,hbo, -,hrb,heb⟩:=hT.at_ (j:=1) (e:=eb) rfl;simp only[Ur,Addr.mk.injEq,and_true]at hbo;obtain⟨rfl,rfl⟩:=hbo;rw[Nat.zero_mul,Nat.add_zero]at hra;rw[Nat.one_mul]at hrb;exact⟨b,o,c,ca,cb,rfl,hbb,hra,hrb,hea,heb⟩
theorem DF:∀(k:Nat) (e:Ex),AD e≤k→Aw Ql e→∀(w:World) (cs:List Value),BC w w.heap.size e cs→
  Calls Tryz.prog 62 #[.agg cs.toArray] w fun e' w'=>e'= .returned (.bool (Db e))∧A5 w w'
 |0,e,h,_,_,_,_=>absurd (AZ e) (by omega)
 |k+1,e,hk,h2,w,cs,hr=>by
  obtain⟨vm,vb,vk,rfl, -, -,hT⟩:=hr.open_;have hne:=Ao e;by_cases h0:e.kind=0
  ·have hF:Db e=true:=by rw[Jy];simp[h0]
   have t0:(e.kind==0)=true:=by rw[Ud];exact h0
   have hb:=Ux w 29 (A8 e vm vb vk).toArray;have hg:=(Uv w).alloc (.cells (A8 e vm vb vk).toArray 29);rw[hF];clear hr hT hk h2 hne h0 hF;go_enter Tryz.func62,Tryz.ntmps62;go_upto_region 1 with fail;change Code.wp _ _ _ _ (w.alloc (.cells (A8 e vm vb vk).toArray 29));generalize w.alloc (.cells (A8 e vm vb vk).toArray 29)=w1 at*;have c0:w1.cell? ⟨w.heap.size,0,none⟩=some (.int .i64 e.kind):=hb.cell 0;have HG:=UX hg;clear hb hg;go_wp2_with fail;go_ret;exact⟨rfl,HG.out⟩
  have t0:(e.kind==0)=false:=by rw[UY];exact h0
  by_cases h3:e.kind=3
  ·obtain⟨ea,eb,hks⟩:=h2.top h3;have hna:=AT (show ea∈e.kids by rw[hks];simp);have hnb:=AT (show eb∈e.kids by rw[hks];simp);have hF:Db e=(Db ea&&Db eb):=by rw[Jy,hks,Nc];simp[h3]
   have t3:(e.kind==3)=true:=by rw[Ud];exact h3
   obtain⟨b,o,c,ca,cb,rfl,hbb,hra,hrb,hea,heb⟩:=LJ hT hks;have HA:=UX (fun w' (g:A5 w w')=>DF k ea (by omega) (h2.kid (by rw[hks];simp)) w' ca (hea.grew g));have HB:=UX (fun w' (g:A5 w w')=>DF k eb (by omega) (h2.kid (by rw[hks];simp)) w' cb (heb.grew g));have HL:=UX (UZ (BT hea) (BT heb));have HRa:=UX (show ∀w',A5 w w'→w'.rangeAt b o ca∧w'.rangeAt b (o+11) cb from fun w' g=>⟨AR hra hbb g (fun h=>h),AR hrb hbb g (fun h=>h)⟩);have hb:=Ux w 29 (A8 e vm vb (.slice (some ⟨b,o,none⟩) 2 c)).toArray;have hg:=(Uv w).alloc (.cells (A8 e vm vb (.slice (some ⟨b,o,none⟩) 2 c)).toArray 29);obtain⟨x,hx⟩:∃x,Db ea=x:=⟨_,rfl⟩;obtain⟨y,hy⟩:∃y,Db eb=y:=⟨_,rfl⟩;rw[hx]at HA hF;rw[hy]at HB hF;rw[hF];clear hr hT hk h2 hne h0 h3 hF hna hnb hra hrb hea heb hks hx hy;go_enter Tryz.func62,Tryz.ntmps62;go_upto_region 1 with fail;change Code.wp _ _ _ _ (w.alloc (.cells (A8 e vm vb (.slice (some ⟨b,o,none⟩) 2 c)).toArray 29));generalize w.alloc (.cells (A8 e vm vb (.slice (some ⟨b,o,none⟩) 2 c)).toArray 29)=w1 at*;have c0:w1.cell? ⟨w.heap.size,0,none⟩=some (.int .i64 e.kind):=hb.cell 0;have HG:=UX hg;have HBx:=UX hb;clear hb hg;go_upto_region 5 with fail;rcases x with _|_
   ·refine AG [.pointer (some ⟨w.heap.size,10,none⟩),.slice (some ⟨b,o,none⟩) 2 c,.pointer (some ⟨b,o,none⟩),.agg ca.toArray,.bool false,.bool false,undef,undef,undef,undef,undef,.bool false,.bool false] ?_ fun w9 hg9=>?_
    ·simp only[nz];exact hP (hL 10 (fun w' hg=>HBx.out.grew hg) (hP (hM (hl:=HL.out.1) (fun w' hg=>(HRa.out w' (HG.out.trans hg)).1) rX (hK (fun w' hg=>HA.out _ (HG.out.trans hg)) (hP (hS (hS (hS (hS (hS (hP (hP AF))))))))))))
    simp only[nz];go_wp2_with fail;go_ret;exact⟨rfl,HG.out.trans hg9⟩
   refine AG [.pointer (some ⟨w.heap.size,10,none⟩),.slice (some ⟨b,o,none⟩) 2 c,.pointer (some ⟨b,o,none⟩),.agg ca.toArray,.bool true,.bool true,.pointer (some ⟨w.heap.size,10,none⟩),.slice (some ⟨b,o,none⟩) 2 c,.pointer (some ⟨b,o+11,none⟩),.agg cb.toArray,.bool y,.bool y,.bool y] ?_ fun w9 hg9=>?_
   ·simp only[nz];exact hP (hL 10 (fun w' hg=>HBx.out.grew hg) (hP (hM (hl:=HL.out.1) (fun w' hg=>(HRa.out w' (HG.out.trans hg)).1) rX (hK (fun w' hg=>HA.out _ (HG.out.trans hg)) (hP (hP (hL 10 (fun w' hg=>HBx.out.grew hg) (hP (hM (hl:=HL.out.2) (fun w' hg=>(HRa.out w' (HG.out.trans hg)).2) rX (hK (fun w' hg=>HB.out _ (HG.out.trans hg)) (hP (hP AF))))))))))))
   simp only[nz];go_wp2_with fail;go_ret;exact⟨rfl,HG.out.trans hg9⟩
  have hF:Db e=false:=by rw[Jy];simp[h0,h3]
  have t3:(e.kind==3)=false:=by rw[UY];exact h3
  have hb:=Ux w 29 (A8 e vm vb vk).toArray;have hg:=(Uv w).alloc (.cells (A8 e vm vb vk).toArray 29);rw[hF];clear hr hT hk h2 hne h0 h3 hF;go_enter Tryz.func62,Tryz.ntmps62;go_upto_region 1 with fail;change Code.wp _ _ _ _ (w.alloc (.cells (A8 e vm vb vk).toArray 29));generalize w.alloc (.cells (A8 e vm vb vk).toArray 29)=w1 at*;have c0:w1.cell? ⟨w.heap.size,0,none⟩=some (.int .i64 e.kind):=hb.cell 0;have HG:=UX hg;clear hb hg;go_wp2_with fail;go_ret;exact⟨rfl,HG.out⟩
def MW (k:Int) (nm:ByteArray) (ps:List (Bool×ByteArray×Bool)):ByteArray×Bool:=
 if k=1 then(nm,true)else match ps with
  |[(ra,la,ka),(rb,lb,kb)]=>if k=3 then(if ra then(lb,kb)else if rb then(la,ka)else(la,ka&&kb&&la.toList==lb.toList))else(⟨#[]⟩,false)
  |_=>(⟨#[]⟩,false)
mutual
def DZ:Ex→ByteArray×Bool
 | .mk k _ _ _ _ _ _ nm _ _ ks=>MW k nm (Jd ks)
def Jd:List Ex→List (Bool×ByteArray×Bool)
 |[]=>[]
 |e::es=>(Db e,DZ e)::Jd es
end
theorem K3 (e:Ex):DZ e=MW e.kind e.name (Jd e.kids):=by cases e;rw[DZ];rfl
theorem QP {e a b:Ex} (h:e.kind=3) (hk:e.kids=[a,b]):DZ e=if Db a then DZ b else if Db b then DZ a else((DZ a).1,(DZ a).2&&(DZ b).2&&(DZ a).1.toList==(DZ b).1.toList):=by
 rw[K3,hk,h];unfold Jd Jd Jd MW;rw[Un (by decide)];simp
def Mz (nm:ByteArray):Prop:=CA (E5 0 0 nm)=0∧B1 (E5 0 0 nm)∧0<nm.size∧nm.size≤1000
def Nh (e:Ex):Prop:=(e.kind=0∧e.kids=[])∨(e.kind=1∧e.ms=[]∧Mz e.name)∨(e.kind=3∧∃a b,e.kids=[a,b])
theorem GZ {e:Ex} (h:Nh e):Ql e:=fun h3=>by
 rcases h with⟨h, -⟩|⟨h, -⟩|⟨-,h⟩
 ·rw[h]at h3;cases h3
 ·rw[h]at h3;cases h3
 exact h
def Sw (nm:ByteArray) (vm:Value):List Value:=[.int .i64 1,.int .i64 0,.int .i64 0,.int .i64 0,.int .i64 0,.int .i64 0,.int .i64 0,.string nm,vm,.slice none 0 0,.slice none 0 0]
theorem El:∀(k:Nat) (e:Ex),AD e≤k→Aw Nh e→∀(w:World) (cs:List Value),Cy w→Dt w→BC w w.heap.size e cs→
  Calls Tryz.prog 101 #[.agg cs.toArray] w fun e' w'=>e'= .returned (.tuple #[.string (DZ e).1,.bool (DZ e).2])∧A5 w w'
 |0,e,h,_,_,_,_,_,_=>absurd (AZ e) (by omega)
 |k+1,e,hk,h2,w,cs,hwt,hot,hr=>by
  have h23:Aw Ql e:=h2.mono (fun _ h=>GZ h) (AD e) e (Ua _);obtain⟨vm,vb,vk,rfl,hms, -,hT⟩:=hr.open_;have hne:=Ao e;rcases h2.top with⟨h0,hks⟩|⟨h1,hm,hsel⟩|⟨h3,ea,eb,hks⟩
  ·have hF:DZ e=(⟨#[]⟩,false):=by rw[K3,hks,h0];rfl
   have hb:=Ux w 29 (A8 e vm vb vk).toArray;have hg:=(Uv w).alloc (.cells (A8 e vm vb vk).toArray 29);rw[hF];clear hr hT hk h2 h23 hne hF hks hwt hot hms;go_enter Tryz.func101,Tryz.ntmps101;go_upto_region 1 with fail;change Code.wp _ _ _ _ (w.alloc (.cells (A8 e vm vb vk).toArray 29));generalize w.alloc (.cells (A8 e vm vb vk).toArray 29)=w1 at*;have c0:w1.cell? ⟨w.heap.size,0,none⟩=some (.int .i64 0):=by rw[←h0];exact hb.cell 0
   have HG:=UX hg;clear hb hg h0;go_wp2_with fail;refine bodyPost_ret (by simp[results,Tryz.func101];rfl) rfl ?_;exact⟨rfl,HG.out⟩
  ·have hF:DZ e=(e.name,true):=by rw[K3,h1];rfl
   obtain⟨Am,c,hvm,hc,hx⟩:=hms;rw[hm]at hvm;obtain rfl:vm= .slice Am 0 c:=hvm;have hb:=Ux w 29 (A8 e (.slice Am 0 c) vb vk).toArray;have hg:=(Uv w).alloc (.cells (A8 e (.slice Am 0 c) vb vk).toArray 29);have HP:=UX (show ∀w',A5 w w'→Calls Tryz.prog 45 #[.agg (Sw e.name (.slice Am 0 c)).toArray] w' (Jn (E5 0 0 e.name) w')from fun w' g=>Jt (E5 0 0 e.name) (by unfold E5;simp[AD,AO]) (Aa.2 ⟨hsel.2.1,fun k hk=>nomatch hk⟩) (Aa.2 ⟨.inr (.inl ⟨rfl,rfl,rfl,rfl,hsel.2.2.2⟩),fun k hk=>nomatch hk⟩) hsel.1
    (by rw[show EH (E5 0 0 e.name)=bl e.name from rfl,JR];have:=hsel.2.2;omega) (by rw[show EH (E5 0 0 e.name)=bl e.name from rfl];exact Ls _) w' (Sw e.name (.slice Am 0 c)) (hwt.grew g) (hot.keep g (fun h=>h))
    (BC.mk_ (e:=E5 0 0 e.name) (vm:= .slice Am 0 c) ⟨Am,c,rfl,Nat.zero_le _,fun h=>absurd h (by simp[E5,Ex.ms])⟩ (Bs.nil _ _ _) (Gw.nil _ _)))
   rw[hF];clear hr hT hk h2 h23 hne hF hwt hot hx hsel hm;go_enter Tryz.func101,Tryz.ntmps101;go_upto_region 1 with fail;change Code.wp _ _ _ _ (w.alloc (.cells (A8 e (.slice Am 0 c) vb vk).toArray 29));generalize w.alloc (.cells (A8 e (.slice Am 0 c) vb vk).toArray 29)=w1 at*;have c0:w1.cell? ⟨w.heap.size,0,none⟩=some (.int .i64 1):=by rw[←h1];exact hb.cell 0
   have c7:w1.cell? ⟨w.heap.size,7,none⟩=some (.string e.name):=hb.cell 7;have c8:w1.cell? ⟨w.heap.size,8,none⟩=some (.slice Am 0 c):=hb.cell 8;have HG:=UX hg;clear hb hg h1;go_wp2_with(go_at_call 45;refine(HP.out _ HG.out).mono ?_;rintro e3 w2 ⟨s,rfl,hs,k2⟩;obtain rfl:s=e.name:=Q3 hs;have HG2:=UX (HG.out.trans k2);clear k2 hs);refine bodyPost_ret (by simp[results,Tryz.func101];rfl) rfl ?_;exact⟨rfl,HG2.out⟩
  have hna:=AT (show ea∈e.kids by rw[hks];simp);have hnb:=AT (show eb∈e.kids by rw[hks];simp);have hF:=QP h3 hks;obtain⟨b,o,c,ca,cb,rfl,hbb,hra,hrb,hea,heb⟩:=LJ hT hks;have HAr:=UX (fun w' (g:A5 w w')=>DF (AD ea) ea (Ua _) (h23.kid (by rw[hks];simp)) w' ca (hea.grew g));have HBr:=UX (fun w' (g:A5 w w')=>DF (AD eb) eb (Ua _) (h23.kid (by rw[hks];simp)) w' cb (heb.grew g));have HAs:=UX (fun w' (g:A5 w w')=>El k ea (by omega) (h2.kid (by rw[hks];simp)) w' ca (hwt.grew g) (hot.keep g (fun h=>h)) (hea.grew g));have HBs:=UX (fun w' (g:A5 w w')=>El k eb (by omega) (h2.kid (by rw[hks];simp)) w' cb (hwt.grew g) (hot.keep g (fun h=>h)) (heb.grew g));have HL:=UX (UZ (BT hea) (BT heb));have HRa:=UX (show ∀w',A5 w w'→w'.rangeAt b o ca∧w'.rangeAt b (o+11) cb from fun w' g=>⟨AR hra hbb g (fun h=>h),AR hrb hbb g (fun h=>h)⟩);have hb:=Ux w 29 (A8 e vm vb (.slice (some ⟨b,o,none⟩) 2 c)).toArray;have hg:=(Uv w).alloc (.cells (A8 e vm vb (.slice (some ⟨b,o,none⟩) 2 c)).toArray 29);obtain⟨x,hx⟩:∃x,Db ea=x:=⟨_,rfl⟩;obtain⟨y,hy⟩:∃y,Db eb=y:=⟨_,rfl⟩;obtain⟨⟨la,ka⟩,hsa⟩:∃p,DZ ea=p:=⟨_,rfl⟩;obtain⟨⟨lb,kb⟩,hsb⟩:∃p,DZ eb=p:=⟨_,rfl⟩;rw[hx]at HAr hF;rw[hy]at HBr hF;rw[hsa]at HAs hF;rw[hsb]at HBs hF;dsimp only at hF HAs HBs;obtain⟨⟨ls,ks⟩,hls⟩:∃p,DZ e=p:=⟨_,rfl⟩;rw[hls]at hF ⊢;have HF:=UX hF;clear hr hT hk h2 h23 hne hF hna hnb hra hrb hea heb hks hx hy hsa hsb hwt hot hms hls;go_enter Tryz.func101,Tryz.ntmps101;go_upto_region 1 with fail;change Code.wp _ _ _ _ (w.alloc (.cells (A8 e vm vb (.slice (some ⟨b,o,none⟩) 2 c)).toArray 29));generalize w.alloc (.cells (A8 e vm vb (.slice (some ⟨b,o,none⟩) 2 c)).toArray 29)=w1 at*;have c0:w1.cell? ⟨w.heap.size,0,none⟩=some (.int .i64 3):=by rw[←h3];exact hb.cell 0
  have c10:w1.cell? ⟨w.heap.size,10,none⟩=some (.slice (some ⟨b,o,none⟩) 2 c):=hb.cell 10;have HG:=UX hg;have HC:=UX (show ∀w',A5 w1 w'→w'.cell? ⟨w.heap.size,10,none⟩=some (.slice (some ⟨b,o,none⟩) 2 c)from fun w' g=>(hb.grew g).cell 10);clear hb hg h3;have HK:=UX (Uv w1);rcases x with _|_
  ·go_upto_region 12 with(first|(refine lM (.tmp 51) ((HRa.out _ HG.out).1) rX ?_ (hl:=HL.out.1))|(go_at_call 62;(with_reducible refine(HAr.out _ HG.out).mono ?_);rintro e3 w2 ⟨rfl,k2⟩;have HG2:=UX (HG.out.trans k2);have HK2:=UX (HK.out.trans k2);have ccw2:w2.cell? ⟨w.heap.size,10,none⟩=some (.slice (some ⟨b,o,none⟩) 2 c):=HC.out _ HK2.out;clear k2)|(refine lM (.tmp 64) ((HRa.out _ HG2.out).1) rX ?_ (hl:=HL.out.1))|(go_at_call 101;(with_reducible refine(HAs.out _ HG2.out).mono ?_);rintro e3 w3 ⟨rfl,k2⟩;have HG3:=UX (HG2.out.trans k2);have HK3:=UX (HK2.out.trans k2);have ccw3:w3.cell? ⟨w.heap.size,10,none⟩=some (.slice (some ⟨b,o,none⟩) 2 c):=HC.out _ HK3.out;clear k2)|fail);clear ccw2 c10;rcases y with _|_
   ·go_upto_region 15 with(first|(refine lM (.tmp 71) ((HRa.out _ HG3.out).2) rX ?_ (hl:=HL.out.2))|(go_at_call 62;(with_reducible refine(HBr.out _ HG3.out).mono ?_);rintro e3 w4 ⟨rfl,k2⟩;have HG4:=UX (HG3.out.trans k2);have HK4:=UX (HK3.out.trans k2);have ccw4:w4.cell? ⟨w.heap.size,10,none⟩=some (.slice (some ⟨b,o,none⟩) 2 c):=HC.out _ HK4.out;clear k2)|(refine lM (.tmp 79) ((HRa.out _ HG4.out).2) rX ?_ (hl:=HL.out.2))|(go_at_call 101;(with_reducible refine(HBs.out _ HG4.out).mono ?_);rintro e3 w5 ⟨rfl,k2⟩;have HG5:=UX (HG4.out.trans k2);have HK5:=UX (HK4.out.trans k2);have ccw5:w5.cell? ⟨w.heap.size,10,none⟩=some (.slice (some ⟨b,o,none⟩) 2 c):=HC.out _ HK5.out;clear k2)|fail);have hF:=HF.out;simp only[Bool.false_eq_true,if_false,Uq]at hF;obtain⟨rfl,hF⟩:=hF;rcases ka with _|_
    ·have hkz:ks=false:=by rw[hF];rfl
     clear hF HF;subst hkz;go_wp2_with fail;refine bodyPost_ret (by simp[results,Tryz.func101];rfl) rfl ?_;exact⟨rfl,HG5.out⟩
    rcases kb with _|_
    ·have hkz:ks=false:=by rw[hF];rfl
     clear hF HF;subst hkz;go_wp2_with fail;refine bodyPost_ret (by simp[results,Tryz.func101];rfl) rfl ?_;exact⟨rfl,HG5.out⟩
    obtain⟨z,hz⟩:∃z,(ls.toList==lb.toList)=z:=⟨_,rfl⟩;have hkz:ks=z:=by rw[hF,←hz];rfl
    clear hF HF;subst hkz;rcases ks with _|_
    ·go_wp2_with fail;refine bodyPost_ret (by simp[results,Tryz.func101];rfl) rfl ?_;exact⟨rfl,HG5.out⟩
    go_wp2_with fail;refine bodyPost_ret (by simp[results,Tryz.func101];rfl) rfl ?_;exact⟨rfl,HG5.out⟩
   go_wp2_with(first|(refine lM (.tmp 71) ((HRa.out _ HG3.out).2) rX ?_ (hl:=HL.out.2))|(go_at_call 62;(with_reducible refine(HBr.out _ HG3.out).mono ?_);rintro e3 w4 ⟨rfl,k2⟩;have HG4:=UX (HG3.out.trans k2);have HK4:=UX (HK3.out.trans k2);have ccw4:w4.cell? ⟨w.heap.size,10,none⟩=some (.slice (some ⟨b,o,none⟩) 2 c):=HC.out _ HK4.out;clear k2)|fail);have hF:=HF.out;simp only[Bool.false_eq_true,if_false,if_true,Uq]at hF;obtain⟨rfl,rfl⟩:=hF;refine bodyPost_ret (by simp[results,Tryz.func101];rfl) rfl ?_;exact⟨rfl,HG4.out⟩
  go_wp2_with(first|(refine lM (.tmp 51) ((HRa.out _ HG.out).1) rX ?_ (hl:=HL.out.1))|(go_at_call 62;(with_reducible refine(HAr.out _ HG.out).mono ?_);rintro e3 w2 ⟨rfl,k2⟩;have HG2:=UX (HG.out.trans k2);have HK2:=UX (HK.out.trans k2);have ccw2:w2.cell? ⟨w.heap.size,10,none⟩=some (.slice (some ⟨b,o,none⟩) 2 c):=HC.out _ HK2.out;clear k2)|(refine lM (.tmp 56) ((HRa.out _ HG2.out).2) rX ?_ (hl:=HL.out.2))|(go_at_call 101;(with_reducible refine(HBs.out _ HG2.out).mono ?_);rintro e3 w3 ⟨rfl,k2⟩;have HG3:=UX (HG2.out.trans k2);have HK3:=UX (HK2.out.trans k2);have ccw3:w3.cell? ⟨w.heap.size,10,none⟩=some (.slice (some ⟨b,o,none⟩) 2 c):=HC.out _ HK3.out;clear k2)|fail);have hF:=HF.out;simp only[if_true,Uq]at hF;obtain⟨rfl,rfl⟩:=hF;refine bodyPost_ret (by simp[results,Tryz.func101];rfl) rfl ?_;exact⟨rfl,HG3.out⟩
end Go.Proofs.YtkclnhpofkaclaaGreatDoor
