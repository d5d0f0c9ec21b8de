/- What the card of the law stands on: ParB, OrdS, RFold, TreeQ, TreeS. -/
import Derived.Test.YthpflelgbadkcaaGreatDoorRewriteTypesP01
import Derived.Test.YthpflelgbadkcaaGreatDoorRewriteTypesP05
import Derived.Test.YthpflelgbadkcaaGreatDoorRewriteTypesP03
import Derived.Test.YthpflelgbadkcaaGreatDoorRewriteTypesP04
import Derived.Test.YthpflelgbadkcaaGreatDoorRewriteTypesP02
set_option maxRecDepth 100000
set_option maxHeartbeats 12800000
set_option linter.unusedVariables false
set_option linter.unusedSimpArgs false
namespace Go.Proofs.YthpflelgbadkcaaGreatDoor
open Go.RowKit Pl
theorem MC (w:World) (k:Int) (s:ByteArray) (n f:Int):(Instr.field 184 (.agg #[.int .i64 k,.string s,.int .i64 n,.int .i64 f]) 2).run Tryz.prog w= .ok (.int .i64 n) w:=by kernel_rfl
theorem QU (w:World) (k:Int) (s:ByteArray) (n f:Int):(Instr.field 184 (.agg #[.int .i64 k,.string s,.int .i64 n,.int .i64 f]) 1).run Tryz.prog w= .ok (.string s) w:=by kernel_rfl
theorem Dk {ts:List C7} {k:Nat} {s:ByteArray} (h:FW ts k s=true):∃t us,ts=t::us:=by
 rcases ts with _|⟨t,us⟩
 ·cases h
 exact⟨t,us,rfl⟩
theorem F3 (w:World) (g:Nat) (n:Int) (ts:List C7) (s:ByteArray) (h:DB w g n ts) (hf:FW ts 3 s=false):
  Calls Tryz.prog 144 #[.pointer (some ⟨g,0,none⟩),.string s] w fun e w'=>e= .returned (.bool false)∧w'=w:=by
 have h1:=Hn w g n ts 3 s h;rw[hf]at h1;have HI:=V3 (show Calls Tryz.prog 143 #[.pointer (some ⟨g,0,none⟩),.int .i64 3,.string s] w (fun e w'=>e= .returned (.bool false)∧w'=w)from h1);clear h h1 hf;go_enter Tryz.func144,Tryz.ntmps144;go_wp2_with(go_at_call 143;(with_reducible refine HI.out.mono ?_);rintro e3 w3 ⟨rfl,rfl⟩);go_ret;exact⟨rfl,rfl⟩
theorem Eu (w:World) (g:Nat) (n:Int) (t:C7) (ts:List C7) (s:ByteArray) (h:DB w g n (t::ts)) (hf:FW (t::ts) 3 s=true):
  Calls Tryz.prog 144 #[.pointer (some ⟨g,0,none⟩),.string s] w fun e w'=>e= .returned (.bool true)∧DB w' g n ts∧E7 g w w':=by
 have h1:=Hn w g n (t::ts) 3 s h;rw[hf]at h1;have HI:=V3 (show Calls Tryz.prog 143 #[.pointer (some ⟨g,0,none⟩),.int .i64 3,.string s] w (fun e w'=>e= .returned (.bool true)∧w'=w)from h1);have HT:=V3 (Ee w g n t ts h);clear h h1 hf;go_enter Tryz.func144,Tryz.ntmps144;go_wp2_with(first|(go_at_call 143;(with_reducible refine HI.out.mono ?_);rintro e3 w3 ⟨rfl,rfl⟩)|(go_at_call 155;(with_reducible refine HT.out.mono ?_);rintro e3 w4 ⟨rfl,hp,hk⟩));go_ret;exact⟨rfl,hp,hk⟩
theorem J8 (w:World) (g:Nat) (n:Int) (t:C7) (ts:List C7) (s:ByteArray) (h:DB w g n (t::ts)) (hf:FW (t::ts) 3 s=true):
  Calls Tryz.prog 157 #[.pointer (some ⟨g,0,none⟩),.string s] w fun e w'=>e= .returned (.tuple #[])∧DB w' g n ts∧E7 g w w':=by
 have h1:=Hn w g n (t::ts) 3 s h;rw[hf]at h1;have HI:=V3 (show Calls Tryz.prog 143 #[.pointer (some ⟨g,0,none⟩),.int .i64 3,.string s] w (fun e w'=>e= .returned (.bool true)∧w'=w)from h1);have HT:=V3 (Ee w g n t ts h);clear h h1 hf;go_enter Tryz.func157,Tryz.ntmps157;go_wp2_with(first|(go_at_call 143;(with_reducible refine HI.out.mono ?_);rintro e3 w3 ⟨rfl,rfl⟩)|(go_at_call 155;(with_reducible refine HT.out.mono ?_);rintro e3 w4 ⟨rfl,hp,hk⟩));go_end0;exact⟨rfl,hp,hk⟩
theorem Qm (w:World) (g:Nat) (n:Int) (t:C7) (ts:List C7) (lo hi:Int) (h:DB w g n (t::ts)) (hk1:t.kind=1) (hlo:lo≤(t.num:Nat)) (hhi:(t.num:Nat)≤hi):
  Calls Tryz.prog 164 #[.pointer (some ⟨g,0,none⟩),.int .i64 lo,.int .i64 hi] w fun e w'=>e= .returned (.int .i64 (t.num:Nat))∧DB w' g n ts∧E7 g w w':=by
 have h1:=G0 w g n (t::ts) 1 h;rw[show Jc (t::ts) 1=true from by rw[show Jc (t::ts) 1=decide (t.kind=1)from rfl,hk1];rfl]at h1;have HI:=V3 (show Calls Tryz.prog 156 #[.pointer (some ⟨g,0,none⟩),.int .i64 1] w (fun e w'=>e= .returned (.bool true)∧w'=w)from h1);obtain⟨A,m,c,hb,hr,rfl⟩:=id h;obtain⟨b,o,rfl, -, -, -, -,k2⟩:=JB hr;have c0:w.cell? ⟨g,0,none⟩=some (.slice (some ⟨b,o,none⟩) (t::ts).length c):=hb.cell 0;rw[List.length_cons]at c0;obtain⟨m,hm⟩:∃m,ts.length=m:=⟨_,rfl⟩;rw[hm]at c0;obtain⟨tk,tt,tn,tf⟩:=t;have HT:=V3 (show Calls Tryz.prog 155 #[.pointer (some ⟨g,0,none⟩)] w (fun e w'=>e= .returned (.agg #[.int .i64 (tk:Nat),.string tt,.int .i64 (tn:Nat),.int .i64 (tf:Nat)])∧DB w' g n ts∧E7 g w w')from Ee w g n ⟨tk,tt,tn,tf⟩ ts h);have k2:w.cell? ⟨b,o+2,none⟩=some (.int .i64 (tn:Nat)):=k2;have hlo:lo≤(tn:Int):=hlo;have hhi:(tn:Int)≤hi:=hhi;have t1:decide ((tn:Int)<lo)=false:=by rw[decide_eq_false_iff_not];omega
 have t2:decide ((tn:Int)>hi)=false:=by rw[decide_eq_false_iff_not];omega
 have hfd:=fun w'=>MC w' (tk:Nat) tt (tn:Nat) (tf:Nat)
 clear h h1 hk1 hlo hhi hr hb hm;go_enter Tryz.func164,Tryz.ntmps164;go_wp2_with(first|(go_at_call 156;(with_reducible refine HI.out.mono ?_);rintro e3 w3 ⟨rfl,rfl⟩)|(go_at_call 155;(with_reducible refine HT.out.mono ?_);rintro e3 w4 ⟨rfl,hp,hk⟩));go_ret;exact⟨rfl,hp,hk⟩
end Go.Proofs.YthpflelgbadkcaaGreatDoor
namespace Go.Proofs.YthpflelgbadkcaaGreatDoor
open Go Go.RowKit
section
variable {P:Program} {ops:Array Oper} {Q:Exit→Act→World→Prop} {md:Region.Mode}
def RD (md:Region.Mode) (ops:Array Oper) (i:Nat):Bool:=match ops[i]? with
 |some o=>o.guard.isNone&&(o.op.operands.all fun x=>match x with
   | .tmp t=>(List.range ops.size).all fun j=>(match ops[j]? with|some oj=>oj.dst !=some t||Region.waitsFor md ops i j|none=>true)
   |_=>true)
 |none=>false
def ND (md:Region.Mode) (ops:Array Oper) (s:Nat) (pures:List Nat):Bool:=
 decide (s<ops.size)&&(List.range ops.size).all (RD md ops)&&MO md ops&&(List.range ops.size).all fun i=>i==s||pures.contains i||Region.waitsFor md ops s i
structure TU (ops:Array Oper) (s:Nat) (pures:List Nat) (ia:Option Nat) (G:Nat→Act) (w0:World) (B C:Nat→World→Prop) (listed:Array Bool) (a:Act) (w:World):Prop where
 ex:∃z,(∀k,(∀j o,ops[j]? =some o→o.dst=some k→listed.getD j false=true)→a.tmps[k]? =(G z).tmps[k]?)∧a.tmps.size=(G z).tmps.size∧a.defers=(G z).defers∧
  (listed.getD s false=false→A4 w0 w∧(∀i,ia=some i→listed.getD i false=true→B z w))∧(listed.getD s false=true→C z w)
 size:listed.size=ops.size
 shut:listed.getD s false=true→∀i,i<ops.size→pures.contains i=false→listed.getD i false=true
theorem Oo {s:Nat} {pures:List Nat} (hB0:ND md ops s pures=true) (hs:Region.noSelect ops=true) (hps:pures.contains s=false) (ia:Option Nat) (d8:Tmp) (G:Nat→Act) (w0:World) (B C:Nat→World→Prop)
  (hGk:∀z z' k,k≠d8→(G z).tmps[k]? =(G z').tmps[k]?) (hGs:∀z z',(G z).tmps.size=(G z').tmps.size) (hGd:∀z z',(G z).defers=(G z').defers)
  (hBg:∀z w w',B z w→A4 w w'→B z w')
  (hst:∀i o,i≠s→ia≠some i→pures.contains i=false→ops[i]? =some o→∀z w,A4 w0 w→o.wp P (G z) w (fun a' w'=>a'=G z∧A4 w w') (fun _ _ _=>False))
  (hpu:∀i o,pures.contains i=true→ops[i]? =some o→∀z w,o.wp P (G z) w (fun a' w'=>a'=G z∧w'=w) (fun _ _ _=>False))
  (hal:∀i o,ia=some i→ops[i]? =some o→pures.contains i=false∧i≠s∧o.dst=some d8∧(∀z,(G z).tmps[d8]? =some (.pointer (some ⟨z,0,none⟩)))∧∀a w K,A4 w0 w→(∀z w',A4 w w'→B z w'→K (a.put (some d8) (.pointer (some ⟨z,0,none⟩))) w')→o.wp P a w K Q)
  (hstore:∀o,ops[s]? =some o→o.dst=none∧∀z a w K,A4 w0 w→(∀i,ia=some i→B z w)→(∀x∈o.op.operands,a.eval x=(G z).eval x)→(∀w',C z w'→K a w')→o.wp P a w K Q)
  (hend:∀z w,C z w→Q .normal (G z) w) (hia:∀i,ia=some i→i<ops.size):
  ∀fuel listed a w,TU ops s pures ia G w0 B C listed a w→EG ops.size listed≤fuel→wpAny P md ops Q fuel listed a w:=by
 unfold ND at hB0;simp only[Bool.and_eq_true,decide_eq_true_eq]at hB0;obtain⟨⟨⟨hsn,hhd⟩,hbk⟩,hwt⟩:=hB0;have hdone:∀listed a w,TU ops s pures ia G w0 B C listed a w→EG ops.size listed=0→Q .normal a w:=by
  intro listed a w hI h0;obtain⟨z,hk,hsz,hdf, -,hC⟩:=hI.ex;have hall:=Et h0;have ha:a=G z:=by
   have ht:a.tmps=(G z).tmps:=Array.ext_getElem? fun k=>hk k fun j o ho _=>hall j (VK.1 ho).1
   cases a;cases hg:G z;rw[hg]at ht hdf;simp at ht hdf;rw[ht,hdf]
  rw[ha];exact hend z w (hC (hall s hsn))
 have hempty:∀listed:Array Bool,EG ops.size listed=0→Region.ready md ops listed=[]:=by
  intro listed h0;apply List.eq_nil_iff_forall_not_mem.2;intro i hi;obtain⟨hun,oi,hoi, -⟩:=mem_ready.1 hi;have:=Et h0 i (VK.1 hoi).1;rw[getD_both hun]at this;cases this
 intro fuel
 induction fuel with
 |zero=>
  intro listed a w hI hc;exact⟨hempty listed (by omega),hdone listed a w hI (by omega)⟩
 |succ fuel ih=>
  intro listed a w hI hc;rcases Nat.eq_zero_or_pos (EG ops.size listed)with h0|hpos
  ·exact⟨fun _=>hdone listed a w hI h0,by rw[hempty listed h0];simp⟩
  obtain⟨j0,hj0,hl0⟩:=Hb hpos;refine⟨fun hr=>absurd hr (CP hbk hI.size j0 j0 (V6 _) hj0 hl0),fun i hi=>?_⟩;obtain⟨hun,oi,hoi,hdep⟩:=mem_ready.1 hi;have hisz:i<ops.size:=(VK.1 hoi).1;have hun':listed.getD i false=false:=getD_both hun;have hhi:=List.all_eq_true.1 hhd i (List.mem_range.2 hisz);unfold RD at hhi;simp only[hoi,Bool.and_eq_true]at hhi;obtain⟨hgd,hopr⟩:=hhi;have hgd':oi.guard=none:=by simpa using hgd
  have hc':EG ops.size (listed.setIfInBounds i true)+1=EG ops.size listed:=Gx listed _ i hisz (by rw[hI.size];exact hisz) hun';have hsz':(listed.setIfInBounds i true).size=ops.size:=by rw[Array.size_setIfInBounds,hI.size]
  obtain⟨z,hk,hsz,hdf,hpre,hpost⟩:=hI.ex;have hoper:∀x∈oi.op.operands,a.eval x=(G z).eval x:=by
   intro x hx;cases x with
   |tmp t=>
    have h1:=Array.all_eq_true'.1 hopr _ hx;simp only[List.all_eq_true,List.mem_range]at h1;have h2:a.tmps[t]? =(G z).tmps[t]? :=hk t fun j o ho hod=>by
     have h3:=h1 j (VK.1 ho).1;simp only[ho,hod]at h3;have h4:Region.waitsFor md ops i j=true:=by simpa using h3
     obtain⟨o',ho',e,he,hbd,hon⟩:=Region.waitsFor_spec h4;obtain rfl:oi=o':=VE (hoi.symm.trans ho');rw[←hon];exact hdep e he hbd
    simp only[Act.eval,Array.getD_eq_getD_getElem?,h2]
   |_=>rfl
  have keepk:∀(k:Tmp) (zz:Nat),(∀o,oi.dst=some o→o≠k)→((G zz).tmps[k]? =(G z).tmps[k]?)→(∀j o,ops[j]? =some o→o.dst=some k→(listed.setIfInBounds i true).getD j false=true)→a.tmps[k]? =(G zz).tmps[k]? :=by
   intro k zz hne hzz hkk;rw[hzz];refine hk k fun j o ho hod=>?_
   have h1:=hkk j o ho hod;by_cases hij:i=j
   ·subst hij;obtain rfl:oi=o:=VE (hoi.symm.trans ho);exact absurd rfl (hne k hod)
   rwa[getD_set_ne false hij]at h1
  have valk:∀v,(G z).put oi.dst v=G z→(∀k,(∀j o,ops[j]? =some o→o.dst=some k→(listed.setIfInBounds i true).getD j false=true)→(a.put oi.dst v).tmps[k]? =(G z).tmps[k]?)∧(a.put oi.dst v).tmps.size=(G z).tmps.size∧(a.put oi.dst v).defers=(G z).defers:=by
   intro v hv;refine⟨fun k hkk=>?_,(E6 _ _ _).1.trans hsz,(E6 _ _ _).2.trans hdf⟩;cases hd:oi.dst with
   |none=>exact keepk k z (fun o h=>by rw[hd]at h;cases h) rfl hkk
   |some d=>
    rw[hd]at hv;rw[C0];by_cases hdk:d=k
    ·subst hdk;rw[VN rfl];have h1:((G z).put (some d) v).tmps[d]? =(G z).tmps[d]? :=by rw[hv]
     rw[C0,VN rfl]at h1;rw[←h1,hsz]
    rw[VM hdk];exact keepk k z (fun o h=>by rw[hd]at h;cases h;exact hdk) rfl hkk
  unfold wpOp;simp only[hoi];rw[VN (by simp[Region.wanted,hgd'])];refine .inl ?_;have hns:=fun cs b=>Region.noSelect_spec hs i oi cs b hoi
  by_cases his:i=s
  ·subst his;obtain⟨hdn,hst'⟩:=hstore oi hoi;obtain⟨hg0,hB⟩:=hpre hun';have hlist:∀j,j<ops.size→pures.contains j=false→j≠i→listed.getD j false=true:=by
    intro j hj hpj hji;have h1:=List.all_eq_true.1 hwt j (List.mem_range.2 hj);simp only[Bool.or_eq_true,VC,hpj,Bool.false_eq_true,or_false]at h1;have h2:=h1.resolve_left hji;obtain⟨o',ho',e,he,hbd,hon⟩:=Region.waitsFor_spec h2;obtain rfl:oi=o':=VE (hoi.symm.trans ho');rw[←hon];exact hdep e he hbd
   refine hst' z a w _ hg0 (fun i' hi'=>?_) hoper fun w' hC=>ih _ _ _ ⟨⟨z,fun k hkk=>keepk k z (fun o h=>by rw[hdn]at h;cases h) rfl hkk,hsz,hdf,fun h=>?_,fun _=>hC⟩,hsz',fun _ j hj hpj=>?_⟩ (by omega)
   ·have:=hal i' (ops[i']'(hia i' hi')) hi' (Array.getElem?_eq_getElem (hia i' hi'));exact hB i' hi' (hlist i' (hia i' hi') this.1 this.2.1)
   ·rw[EY (by rw[hI.size];exact hisz)]at h;cases h
   by_cases hji:j=i
   ·subst hji;exact EY (by rw[hI.size];exact hisz)
   rw[getD_set_ne false (Ne.symm hji)];exact hlist j hj hpj hji
  have hsl:(listed.setIfInBounds i true).getD s false=listed.getD s false:=getD_set_ne false his;have hshut':(listed.setIfInBounds i true).getD s false=true→∀j,j<ops.size→pures.contains j=false→(listed.setIfInBounds i true).getD j false=true:=fun h j hj hpj=>by
   rw[hsl]at h;exact getD_set_true (hI.shut h j hj hpj)
  by_cases hpi:pures.contains i=true
  ·refine Cv (R:=fun w'=>w'=w) hns (hpu i oi hpi hoi z w) hoper fun v w' hv hw=>?_
   subst hw;obtain⟨h1,h2,h3⟩:=valk v hv;refine ih _ _ _ ⟨⟨z,h1,h2,h3,fun h=>?_,fun h=>?_⟩,hsz',hshut'⟩ (by omega)
   ·rw[hsl]at h;obtain⟨hg0,hB⟩:=hpre h;refine⟨hg0,fun i' hi' hl'=>hB i' hi' ?_⟩;have hne:i≠i':=fun e=>by
     have:=(hal i' (ops[i']'(hia i' hi')) hi' (Array.getElem?_eq_getElem (hia i' hi'))).1;rw[←e,hpi]at this;cases this
    rwa[getD_set_ne false hne]at hl'
   rw[hsl]at h;exact hpost h
  have hpi':pures.contains i=false:=by simpa using hpi
  have hsf:listed.getD s false=false:=by
   cases hx:listed.getD s false with
   |false=>rfl
   |true=>
    have:=hI.shut hx i hisz hpi';rw[hun']at this;cases this
  obtain⟨hg0,hB⟩:=hpre hsf;by_cases hii:ia=some i
  ·obtain⟨-, -,hd,hG8,hal'⟩:=hal i oi hii hoi;refine hal' a w _ hg0 fun z' w' hg hb=>ih _ _ _ ⟨⟨z',fun k hkk=>?_,?_,?_,fun _=>⟨hg0.trans hg,fun _ _ _=>hb⟩,fun h=>?_⟩,hsz',hshut'⟩ (by omega)
   ·rw[C0];by_cases hdk:d8=k
    ·subst hdk;rw[VN rfl];have h1:=hG8 z';have h2:d8<a.tmps.size:=by
      rw[hsz,hGs z z'];exact(VK.1 h1).1
     rw[VN h2,h1]
    rw[VM hdk];exact keepk k z' (fun o h=>by rw[hd]at h;cases h;exact hdk) (hGk z' z k (fun e=>hdk e.symm)) hkk
   ·simp only[Act.put,Array.size_setIfInBounds];rw[hsz,hGs z z']
   ·simp only[Act.put];rw[hdf,hGd z z']
   rw[hsl,hsf]at h;cases h
  refine Cv (R:=fun w'=>A4 w w') hns (hst i oi his hii hpi' hoi z w hg0) hoper fun v w' hv hg=>?_
  obtain⟨h1,h2,h3⟩:=valk v hv;refine ih _ _ _ ⟨⟨z,h1,h2,h3,fun _=>⟨hg0.trans hg,fun i' hi' hl'=>?_⟩,fun h=>?_⟩,hsz',hshut'⟩ (by omega)
  ·have hne:i≠i':=fun e=>hii (by rw[e,hi'])
   rw[getD_set_ne false hne]at hl';exact hBg z w w' (hB i' hi' hl') hg
  rw[hsl,hsf]at h;cases h
def C5 (P:Program) (w0:World) (ia:Option Nat) (s:Nat) (pures:List Nat) (G:Nat→Act):Nat→List Oper→Prop
 |_,[]=>True
 |i,o::r=>((i≠s→ia≠some i→pures.contains i=false→∀z w,A4 w0 w→o.wp P (G z) w (fun a' w'=>a'=G z∧A4 w w') (fun _ _ _=>False))∧(pures.contains i=true→∀z w,o.wp P (G z) w (fun a' w'=>a'=G z∧w'=w) (fun _ _ _=>False)))∧C5 P w0 ia s pures G (i+1) r
section
variable {w0:World} {ia:Option Nat} {s i:Nat} {pures:List Nat} {G:Nat→Act} {o:Oper} {r:List Oper}
theorem GC:C5 P w0 ia s pures G i []:=trivial
theorem AX (hp:pures.contains i=false) (h:∀z w,A4 w0 w→o.wp P (G z) w (fun a' w'=>a'=G z∧A4 w w') (fun _ _ _=>False)) (h2:C5 P w0 ia s pures G (i+1) r):C5 P w0 ia s pures G i (o::r):=⟨⟨fun _ _ _=>h,fun e=>by rw[hp]at e;cases e⟩,h2⟩
theorem CJ (hp:pures.contains i=true) (h:∀z w,o.wp P (G z) w (fun a' w'=>a'=G z∧w'=w) (fun _ _ _=>False)) (h2:C5 P w0 ia s pures G (i+1) r):C5 P w0 ia s pures G i (o::r):=⟨⟨fun _ _ e=>(by rw[hp]at e;cases e),fun _=>h⟩,h2⟩
theorem Dj (hp:pures.contains i=false) (h2:C5 P w0 ia i pures G (i+1) r):C5 P w0 ia i pures G i (o::r):=⟨⟨fun e=>absurd rfl e,fun e=>by rw[hp]at e;cases e⟩,h2⟩
theorem Dl (hp:pures.contains i=false) (h2:C5 P w0 (some i) s pures G (i+1) r):C5 P w0 (some i) s pures G i (o::r):=⟨⟨fun _ e=>absurd rfl e,fun e=>by rw[hp]at e;cases e⟩,h2⟩
theorem Fc:∀{l:List Oper} {n:Nat},C5 P w0 ia s pures G n l→∀i o,l[i]? =some o→(n+i≠s→ia≠some (n+i)→pures.contains (n+i)=false→∀z w,A4 w0 w→o.wp P (G z) w (fun a' w'=>a'=G z∧A4 w w') (fun _ _ _=>False))∧(pures.contains (n+i)=true→∀z w,o.wp P (G z) w (fun a' w'=>a'=G z∧w'=w) (fun _ _ _=>False))
 |[],_,_,_,_,h=>by simp at h
 |_::_,n,h,0,o,ho=>by
  obtain rfl:=VE ho;exact h.1
 |_::r,n,h,i+1,o,ho=>by
  have:=Fc h.2 i o (by simpa using ho);rwa[Nat.add_assoc,Nat.add_comm 1]at this
end
theorem Dt {id:Nat} {a:Act} {w:World} (hm:P.follows .mixedOrders=true) (s ia:Nat) (d8:Tmp) (pures:List Nat) (vals:List Value) (ty:TypeId) (zs:List Value) (G:Nat→Act) (hB0:ND .any ops s pures=true) (hs:Region.noSelect ops=true) (hps:pures.contains s=false) (hpa:pures.contains ia=false) (hias:ia≠s) (hia:ia<ops.size)
  (hG:G=fun z=>(Af ops.toList vals a).put (some d8) (.pointer (some ⟨z,0,none⟩))) (hd8:d8<a.tmps.size) (hda:(ops[ia]?).map (·.dst)=some (some d8))
  (hH:C5 P w.drew (some ia) s pures G 0 ops.toList)
  (hal:∀o,ops[ia]? =some o→∀a w K,(∀w',w'=w.alloc (.cells zs.toArray ty)→K (a.put o.dst (.pointer (some ⟨w.heap.size,0,none⟩))) w')→o.wp P a w K Q)
  (vs:List Value) (x y:Operand) (T:TypeId) (o:Oper) (ho:ops[s]? =some o) (hop:o.op= .store T x y) (hd:o.dst=none) (hxo:x∈o.op.operands) (hyo:y∈o.op.operands) (hT:(P.info? T).map (·.size)=some vs.length) (hl:zs.length=vs.length) (h1:∀v∈vs,v.oneCell'=true)
  (hx:∀z,(G z).eval x= .pointer (some ⟨z,0,none⟩)) (hy:∀z,(G z).eval y= .agg vs.toArray)
  (h:∀z w',w.heap.size≤z→AR w' z ty vs.toArray→A4 w w'→Q .normal (G z) w'):(Code.region id ops true).wp P Q a w:=by
 refine wp_region_any hm ?_;have hsz:∀z,(G z).tmps.size=a.tmps.size:=fun z=>by rw[hG];exact(E6 _ _ _).1.trans (BD _ _ _).1
 have hdf:∀z,(G z).defers=a.defers:=fun z=>by rw[hG];exact(E6 _ _ _).2.trans (BD _ _ _).2
 refine Oo (s:=s) (pures:=pures) hB0 hs hps (some ia) d8 G w.drew (fun z w'=>AR w' z ty zs.toArray∧w.heap.size≤z) (fun z w'=>w.heap.size≤z∧AR w' z ty vs.toArray∧A4 w w') ?_ (fun z z'=>by rw[hsz,hsz]) (fun z z'=>by rw[hdf,hdf]) (fun z w1 w2 hb hg=>⟨hb.1.grew hg,hb.2⟩) ?_ ?_ ?_ ?_ (fun z w1 hc=>h z w1 hc.1 hc.2.1 hc.2.2) (fun i hi=>by cases hi;exact hia) ops.size _ _ _ ⟨⟨0,?_,(hsz 0).symm,(hdf 0).symm,fun _=>⟨VU _,?_⟩,?_⟩,by simp,?_⟩ ?_
 ·intro z z' k hk;rw[hG];simp only[C0];rw[VM (fun e=>hk e.symm),VM (fun e=>hk e.symm)]
 ·intro i o' his hne hp ho' z w1 hg;exact(Fc hH i o' (by simpa using ho')).1 (by simpa using his) (by simpa using hne) (by simpa using hp) z w1 hg
 ·intro i o' hp ho' z w1;exact(Fc hH i o' (by simpa using ho')).2 (by simpa using hp) z w1
 ·intro i o' hi ho';cases hi;rw[ho']at hda;have hdo:o'.dst=some d8:=by simpa using hda
  refine⟨hpa,hias,hdo,fun z=>?_,fun a1 w1 K hg hK=>?_⟩
  ·rw[hG];simp only[C0];rw[VN trivial,VN];rw[(BD _ _ _).1];exact hd8
  refine hal o' ho' a1 w1 K fun w' hw'=>?_
  subst hw';rw[hdo];exact hK _ _ ((VU w1).alloc _) ⟨VW w1 ty zs.toArray,hg.size⟩
 ·intro o' ho';obtain rfl:o=o':=VE (ho.symm.trans ho');refine⟨hd,fun z a1 w1 K hg hb hev hK=>?_⟩;obtain⟨hb,hz⟩:=hb ia rfl;refine EU T x y z vs zs ty hT hl h1 hop ((hev x hxo).trans (hx z)) ((hev y hyo).trans (hy z)) hb fun w2 k1 k2=>?_
  have e:a1.put o.dst undef=a1:=by rw[hd];rfl
  rw[e];have hg':A4 w w1:=(VX (VU w)).trans hg;exact hK w2 ⟨hz,k1,VV hg' k2 (fun i hi e=>by omega)⟩
 ·intro k hk;rw[hG];simp only[];rw[C0];by_cases hkd:d8=k
  ·exfalso;subst hkd;have hex:∃o',ops[ia]? =some o'∧o'.dst=some d8:=by
    cases ho':ops[ia]? with
    |none=>rw[ho']at hda;cases hda
    |some o'=>rw[ho']at hda;exact⟨o',rfl,by simpa using hda⟩
   obtain⟨o',ho',hdo⟩:=hex;have:=hk ia o' ho' hdo;rw[getD_replicate_false]at this;cases this
  rw[VM hkd];refine(CR _ _ _ _ fun o' ho' hdo=>?_).symm;obtain⟨j,hj⟩:=List.getElem?_of_mem ho';have:=hk j o' (by simpa using hj) hdo;rw[getD_replicate_false]at this;cases this
 ·intro i hi hl';rw[getD_replicate_false]at hl';cases hl'
 ·intro hl';rw[getD_replicate_false]at hl';cases hl'
 ·intro hl';rw[getD_replicate_false]at hl';cases hl'
 have:∀k,EG k (Array.replicate ops.size false)≤k:=by
  intro k
  induction k with
  |zero=>exact V6 _
  |succ k ih=>unfold EG;split<;>omega
 exact this ops.size
end
end Go.Proofs.YthpflelgbadkcaaGreatDoor
namespace Go.Proofs.YthpflelgbadkcaaGreatDoor
open Go.RowKit Pl
def AJ (x y:Int):List Value:=[.int .i64 0,.int .i64 0,.int .i64 0,.int .i64 0,.int .i64 0,.int .i64 x,.int .i64 y,.string ⟨#[]⟩,.slice none 0 0,.slice none 0 0,.slice none 0 0]
theorem Bh (x y:Int):∀v∈AJ x y,v.oneCell'=true:=by
 intro v hv;simp[AJ]at hv;rcases hv with rfl|rfl|rfl|rfl|rfl<;>rfl
theorem DT {fn:Func} {p q:Tmp} {ty:TypeId} (h:fn.results=#[.cell p ty,.tmp q]) {tmps:Array Value} {w:World} {g:Nat} {vs:List Value} {v:Value} {t:TypeId} (hp:tmps.getD p undef= .pointer (some ⟨g,0,none⟩)) (hq:tmps.getD q undef=v) (hT:(Tryz.prog.info? ty).map (·.size)=some vs.length) {d:TypeDesc} (hu:Tryz.prog.underlying ty=some d) (hd:d.isRow=true) (hb:AR w g t vs.toArray):
  (results fn tmps).run Tryz.prog w= .ok (.tuple #[.agg vs.toArray,v]) w:=Au h hp hq hT hu hd hb
end Go.Proofs.YthpflelgbadkcaaGreatDoor
namespace Go.Proofs.YthpflelgbadkcaaGreatDoor
open Go.RowKit
def Ba (w:World) (Q:Nat→Prop) (sz:Nat) (v:Value) (rows:List (List Value)):Prop:=
 ∃A c,v= .slice A rows.length c∧rows.length≤c∧(0<rows.length→∃b o,A=some ⟨b,o,none⟩∧Q b∧∀j cs,rows[j]? =some cs→w.rangeAt b (o+j*sz) cs)
mutual
def AZ (w:World) (Q:Nat→Prop):Ex→List Value→Prop
 | .mk kind fn window offset k num den name ms bys kids,cs=>∃vm vb vk,cs=AC (.mk kind fn window offset k num den name ms bys kids) vm vb vk∧Ba w Q 3 vm (ms.map Ac)∧Ba w Q 1 vb (bys.map fun s=>[Value.string s])∧
   ∃A c,vk= .slice A kids.length c∧kids.length≤c∧(0<kids.length→∃b o,A=some ⟨b,o,none⟩∧Q b∧Bc w Q b o kids)
def Bc (w:World) (Q:Nat→Prop) (b o:Nat):List Ex→Prop
 |[]=>True
 |e::es=>(∃cs,w.rangeAt b o cs∧AZ w Q e cs)∧Bc w Q b (o+11) es
end
def EX (w:World) (Q:Nat→Prop) (v:Value) (es:List Ex):Prop:=
 ∃A c,v= .slice A es.length c∧es.length≤c∧(0<es.length→∃b o,A=some ⟨b,o,none⟩∧Q b∧Bc w Q b o es)
section
variable {w w':World} {Q Q':Nat→Prop} {B:Nat}
theorem Ba.keep {sz:Nat} {v:Value} {rows:List (List Value)} {S:Nat→Prop} (h:Ba w Q sz v rows) (hq:∀b,Q b→b<w.heap.size∧¬S b∧Q' b) (hk:AA S w w'):Ba w' Q' sz v rows:=by
 obtain⟨A,c,hv,hc,hx⟩:=h;refine⟨A,c,hv,hc,fun hn=>?_⟩;obtain⟨b,o,e,hb,hcell⟩:=hx hn;exact⟨b,o,e,(hq b hb).2.2,fun j cs hj=>AU (hcell j cs hj) (hq b hb).1 hk (hq b hb).2.1⟩
mutual
theorem AZ.keep {S:Nat→Prop} (hq:∀b,Q b→b<w.heap.size∧¬S b∧Q' b) (hk:AA S w w'):∀(e:Ex) (cs:List Value),AZ w Q e cs→AZ w' Q' e cs
 | .mk kind fn window offset k num den name ms bys kids,cs,h=>by
  unfold AZ at h ⊢;obtain⟨vm,vb,vk,h1,h2,h3,A,c,h4,h5,h6⟩:=h;refine⟨vm,vb,vk,h1,h2.keep hq hk,h3.keep hq hk,A,c,h4,h5,fun hn=>?_⟩;obtain⟨b,o,e1,hb,hks⟩:=h6 hn;exact⟨b,o,e1,(hq b hb).2.2,Bc.keep hq hk b hb kids o hks⟩
theorem Bc.keep {S:Nat→Prop} (hq:∀b,Q b→b<w.heap.size∧¬S b∧Q' b) (hk:AA S w w') (b:Nat) (hb:Q b):∀(es:List Ex) (o:Nat),Bc w Q b o es→Bc w' Q' b o es
 |[],_,_=>by unfold Bc;trivial
 |e::es,o,h=>by
  unfold Bc at h ⊢;obtain⟨⟨cs,h1,h2⟩,h3⟩:=h;exact⟨⟨cs,AU h1 (hq b hb).1 hk (hq b hb).2.1,AZ.keep hq hk e cs h2⟩,Bc.keep hq hk b hb es (o+11) h3⟩
end
theorem EX.keep {v:Value} {es:List Ex} {S:Nat→Prop} (h:EX w Q v es) (hq:∀b,Q b→b<w.heap.size∧¬S b∧Q' b) (hk:AA S w w'):EX w' Q' v es:=by
 obtain⟨A,c,hv,hc,hx⟩:=h;refine⟨A,c,hv,hc,fun hn=>?_⟩;obtain⟨b,o,e,hb,hks⟩:=hx hn;exact⟨b,o,e,(hq b hb).2.2,Bc.keep hq hk b hb es o hks⟩
theorem Ba.toB {sz:Nat} {v:Value} {rows:List (List Value)} (h:Ba w Q sz v rows) (hq:∀b,Q b→b<B):Cg w B sz v rows:=by
 obtain⟨A,c,hv,hc,hx⟩:=h;refine⟨A,c,hv,hc,fun hn=>?_⟩;obtain⟨b,o,e,hb,hcell⟩:=hx hn;exact⟨b,o,e,hq b hb,hcell⟩
theorem Cg.toQ {sz:Nat} {v:Value} {rows:List (List Value)} (h:Cg w B sz v rows) (hq:∀b,b<B→Q b):Ba w Q sz v rows:=by
 obtain⟨A,c,hv,hc,hx⟩:=h;refine⟨A,c,hv,hc,fun hn=>?_⟩;obtain⟨b,o,e,hb,hcell⟩:=hx hn;exact⟨b,o,e,hq b hb,hcell⟩
mutual
theorem AZ.toB (hq:∀b,Q b→b<B):∀(e:Ex) (cs:List Value),AZ w Q e cs→BU w B e cs
 | .mk kind fn window offset k num den name ms bys kids,cs,h=>by
  unfold AZ at h;unfold BU;obtain⟨vm,vb,vk,h1,h2,h3,A,c,h4,h5,h6⟩:=h;refine⟨vm,vb,vk,h1,h2.toB hq,h3.toB hq,A,c,h4,h5,fun hn=>?_⟩;obtain⟨b,o,e1,hb,hks⟩:=h6 hn;exact⟨b,o,e1,hq b hb,Bc.toB hq b kids o hks⟩
theorem Bc.toB (hq:∀b,Q b→b<B) (b:Nat):∀(es:List Ex) (o:Nat),Bc w Q b o es→Ds w B b o es
 |[],_,_=>by unfold Ds;trivial
 |e::es,o,h=>by
  unfold Bc at h;unfold Ds;obtain⟨⟨cs,h1,h2⟩,h3⟩:=h;exact⟨⟨cs,h1,AZ.toB hq e cs h2⟩,Bc.toB hq b es (o+11) h3⟩
end
mutual
theorem BU.toQ (hq:∀b,b<B→Q b):∀(e:Ex) (cs:List Value),BU w B e cs→AZ w Q e cs
 | .mk kind fn window offset k num den name ms bys kids,cs,h=>by
  unfold BU at h;unfold AZ;obtain⟨vm,vb,vk,h1,h2,h3,A,c,h4,h5,h6⟩:=h;refine⟨vm,vb,vk,h1,h2.toQ hq,h3.toQ hq,A,c,h4,h5,fun hn=>?_⟩;obtain⟨b,o,e1,hb,hks⟩:=h6 hn;exact⟨b,o,e1,hq b hb,Ds.toQ hq b kids o hks⟩
theorem Ds.toQ (hq:∀b,b<B→Q b) (b:Nat):∀(es:List Ex) (o:Nat),Ds w B b o es→Bc w Q b o es
 |[],_,_=>by unfold Bc;trivial
 |e::es,o,h=>by
  unfold Ds at h;unfold Bc;obtain⟨⟨cs,h1,h2⟩,h3⟩:=h;exact⟨⟨cs,h1,BU.toQ hq e cs h2⟩,Ds.toQ hq b es (o+11) h3⟩
end
theorem AZ.open_ {e:Ex} {cs:List Value} (h:AZ w Q e cs):∃vm vb vk,cs=AC e vm vb vk∧Ba w Q 3 vm (e.ms.map Ac)∧Ba w Q 1 vb (e.bys.map fun s=>[Value.string s])∧EX w Q vk e.kids:=by
 cases e;unfold AZ at h;exact h
theorem AZ.mk_ {e:Ex} {vm vb vk:Value} (h1:Ba w Q 3 vm (e.ms.map Ac)) (h2:Ba w Q 1 vb (e.bys.map fun s=>[Value.string s])) (h3:EX w Q vk e.kids):AZ w Q e (AC e vm vb vk):=by
 cases e;unfold AZ;exact⟨vm,vb,vk,rfl,h1,h2,h3⟩
theorem EX.nil (w:World) (Q:Nat→Prop):EX w Q (.slice none 0 0) []:=⟨none,0,rfl,V6 _,fun h=>absurd h (by simp)⟩
theorem Ba.nil (w:World) (Q:Nat→Prop) (sz:Nat):Ba w Q sz (.slice none 0 0) []:=⟨none,0,rfl,V6 _,fun h=>absurd h (by simp)⟩
theorem Ba.slice {sz:Nat} {v:Value} {rows:List (List Value)} (h:Ba w Q sz v rows):∃A n c,v= .slice A n c∧n=rows.length∧n≤c:=by
 obtain⟨A,c,rfl,hc,_⟩:=h;exact⟨A,_,c,rfl,rfl,hc⟩
theorem EX.slice {v:Value} {es:List Ex} (h:EX w Q v es):∃A n c,v= .slice A n c∧n=es.length∧n≤c:=by
 obtain⟨A,c,rfl,hc,_⟩:=h;exact⟨A,_,c,rfl,rfl,hc⟩
theorem Bc.at_ {b:Nat}:∀{es:List Ex} {o j:Nat} {e:Ex},Bc w Q b o es→es[j]? =some e→∃cs,w.rangeAt b (o+j*11) cs∧AZ w Q e cs
 |e::es,o,0,e',h,hj=>by
  unfold Bc at h;obtain rfl:e=e':=by simpa using hj
  simpa using h.1
 |e::es,o,j+1,e',h,hj=>by
  unfold Bc at h;have:=Bc.at_ (j:=j) h.2 (by simpa using hj);rwa[show o+11+j*11=o+(j+1)*11 by omega]at this
theorem EX.at_ {A:Option Addr} {n c j:Nat} {es:List Ex} {e:Ex} (h:EX w Q (.slice A n c) es) (hj:es[j]? =some e):∃b o cs,A=some ⟨b,o,none⟩∧Q b∧w.rangeAt b (o+j*11) cs∧AZ w Q e cs:=by
 obtain⟨A',c',hv,_,hx⟩:=h;injection hv with hA;subst hA;have hl:j<es.length:=(VG.1 hj).1;obtain⟨b,o,rfl,hb,hks⟩:=hx (by omega);obtain⟨cs,h1,h2⟩:=hks.at_ hj;exact⟨b,o,cs,rfl,hb,h1,h2⟩
theorem Bc.of {b:Nat}:∀{es:List Ex} {o:Nat},(∀(j:Nat) (e:Ex),es[j]? =some e→∃cs,w.rangeAt b (o+j*11) cs∧AZ w Q e cs)→Bc w Q b o es
 |[],_,_=>by unfold Bc;trivial
 |e::es,o,h=>by
  unfold Bc;refine⟨by simpa using h 0 e rfl,Bc.of fun j e' hj=>?_⟩;have:=h (j+1) e' (by simpa using hj);rwa[show o+(j+1)*11=o+11+j*11 by omega]at this
theorem B8.own {base:Nat} {t:TypeId} {sz:Nat} {v:Value} {rows:List (List Value)} (h:B8 w base t sz v rows):Ba w (fun b=>v.ownBlock=some b) sz v rows:=by
 have he:=h.2;rcases h.form with⟨rfl,rfl⟩|⟨g,cap,cur,rfl,hb,hbox,h1,h2,h3,h4⟩
 ·exact⟨none,0,rfl,V6 _,fun h=>absurd h (by simp)⟩
 refine⟨_,cap,rfl,h1,fun _=>⟨g,0,rfl,rfl,fun j cs hj k u hk=>?_⟩⟩;have hf:=ED he hj hk;have hlt:j*sz+k<rows.length*sz:=by rw[←CV he];exact(VG.1 hf).1
 rw[Nat.zero_add,hbox.cell,←Array.getElem?_toList,←hf,←h4,List.getElem?_take,VN hlt]
theorem B8.treesQ {base:Nat} {t:TypeId} {v:Value} {rows:List (List Value)} {es:List Ex} (h:B8 w base t 11 v rows) (hl:rows.length=es.length) (hq:∀b,v.ownBlock=some b→Q b) (he:∀(j:Nat) (e:Ex) (cs:List Value),es[j]? =some e→rows[j]? =some cs→AZ w Q e cs):EX w Q v es:=by
 obtain⟨A,c,rfl,hc,hx⟩:=h.own;refine⟨A,c,by rw[hl],by omega,fun hn=>?_⟩;obtain⟨b,o,e,hb,hcell⟩:=hx (by omega);refine⟨b,o,e,hq b hb,Bc.of fun j e' hj=>?_⟩;have hjl:j<rows.length:=by rw[hl];exact(VG.1 hj).1
 exact⟨rows[j],hcell j _ (VB hjl),he j e' _ hj (VB hjl)⟩
end
def DK (B M E:Nat) (b:Nat):Prop:=(b<B∨M≤b)∧b<E
end Go.Proofs.YthpflelgbadkcaaGreatDoor
namespace Go.Proofs.YthpflelgbadkcaaGreatDoor
open Go.RowKit Pl
def IT:Value:= .agg #[.int .i64 0,.int .i64 0,.int .i64 0,.int .i64 0,.int .i64 0,.int .i64 0,.int .i64 0,.string ⟨#[]⟩,.slice none 0 0,.slice none 0 0,.slice none 0 0]
theorem U4:My Tryz.prog 27 29 11 144 IT:=⟨Tryz.underlying27,by kernel_rfl,rfl,by decide,by decide⟩
def Ch (w:World) (Q:Nat→Prop) (es:List Ex) (rows:List (List Value)):Prop:=rows.length=es.length∧∀(j:Nat) (e:Ex) (cs:List Value),es[j]? =some e→rows[j]? =some cs→AZ w Q e cs
def J9 (B0 M:Nat) (s:Value) (E b:Nat):Prop:=(b<B0∨M≤b)∧b<E∧s.ownBlock≠some b
section
variable {w w':World} {Q Q':Nat→Prop} {es:List Ex} {rows:List (List Value)}
theorem Ch.nil (w:World) (Q:Nat→Prop):Ch w Q [] []:=⟨rfl,fun j e cs h=>by simp at h⟩
theorem Ch.keep {S:Nat→Prop} (h:Ch w Q es rows) (hq:∀b,Q b→b<w.heap.size∧¬S b∧Q' b) (hk:AA S w w'):Ch w' Q' es rows:=⟨h.1,fun j e cs h1 h2=>AZ.keep hq hk e cs (h.2 j e cs h1 h2)⟩
theorem Ch.snoc {e:Ex} {cs:List Value} (h:Ch w Q es rows) (he:AZ w Q e cs):Ch w Q (es++[e]) (rows++[cs]):=by
 refine⟨by rw[VR,VR,h.1];rfl,fun j e' cs' h1 h2=>?_⟩;by_cases hj:j<es.length
 ·rw[List.getElem?_append_left hj]at h1;rw[List.getElem?_append_left (by rw[h.1];exact hj)]at h2;exact h.2 j e' cs' h1 h2
 rw[List.getElem?_append_right (by omega)]at h1;rw[List.getElem?_append_right (by rw[h.1];omega),h.1]at h2;cases hz:j-es.length with
 |zero=>
  rw[hz]at h1 h2;obtain rfl:e=e':=by simpa using h1
  obtain rfl:cs=cs':=by simpa using h2
  exact he
 |succ z=>rw[hz]at h1;simp at h1
theorem Ch.step {B0 M r n c:Nat} {s:Value} {t:TypeId} {o:Obj} {e:Ex} {cs:List Value} {wr w3 w6:World} (hT:Ch wr (J9 B0 M s wr.heap.size) es rows) (hM:B8 wr M t 11 s rows) (hB:B0≤M) (hM2:M≤wr.heap.size) (g3:A4 wr w3) (he:AZ w3 (DK B0 wr.heap.size w3.heap.size) e cs)
  (k6:AA (fun i=>s.ownBlock=some i) (w3.alloc o) w6) (hr:some r=s.ownBlock∨r=(w3.alloc o).heap.size):Ch w6 (J9 B0 M (.slice (some ⟨r,0,none⟩) n c) w6.heap.size) (es++[e]) (rows++[cs]):=by
 have s3:=g3.size;have s4:(w3.alloc o).heap.size=w3.heap.size+1:=by simp
 have s6:=k6.size;have hso:∀k,s.ownBlock=some k→M≤k∧k<wr.heap.size:=hM.lt;have hrb:(.slice (some ⟨r,0,none⟩) n c:Value).ownBlock=some r:=rfl;have ga:A4 w3 (w3.alloc o):=(VU w3).alloc o;refine Ch.snoc (hT.keep (S:=fun i=>s.ownBlock=some i) (fun b hb=>?_) (VV ((g3.trans ga).keeps (S:=fun i=>s.ownBlock=some i)) k6 fun i _ h=>h)) (AZ.keep (S:=fun i=>s.ownBlock=some i) (fun b hb=>?_) (VV (ga.keeps (S:=fun i=>s.ownBlock=some i)) k6 fun i _ h=>h) e cs he)
 ·obtain⟨h1,h2,h3⟩:=hb;refine⟨h2,h3,h1,by omega,fun h4=>?_⟩;rw[hrb]at h4;injection h4 with h4;subst h4;rcases hr with hr|hr
  ·exact h3 hr.symm
  omega
 obtain⟨h1,h2⟩:=hb;refine⟨h2,fun h4=>?_,by omega,by omega,fun h4=>?_⟩
 ·have:=hso b h4;omega
 rw[hrb]at h4;injection h4 with h4;subst h4;rcases hr with hr|hr
 ·have:=hso r hr.symm;omega
 omega
end
theorem B8.made {e:TypeId} {sz:Nat} {w:World} {base c:Nat} (cs:Array Value) (hc:cs.size=c*sz) (hm:c≤maxLen) (hb:base≤w.heap.size):B8 (w.alloc (.cells cs e)) base e sz (.slice (some ⟨w.heap.size,0,none⟩) 0 c) []:=by
 refine⟨⟨by simp,.inr ⟨w.heap.size,c,cs,rfl,hb,VW w e cs,Nat.zero_le _,hm,hc,by simp⟩⟩,by intro r hr;cases hr⟩
theorem Tt (e:Ex) (a b c:Value):List.foldl (fun(cs:Array Value) (x:Value×Nat)=>cs.setIfInBounds x.snd x.fst) #[.int .i64 0,.int .i64 0,.int .i64 0,.int .i64 0,.int .i64 0,.int .i64 0,.int .i64 0,.string ⟨#[]⟩,.slice none 0 0,.slice none 0 0,.slice none 0 0] (AC e a b c).zipIdx=(AC e a b c).toArray:=by
 simp[AC,List.zipIdx]
theorem Ap {e:Ex} {w:World} {Q:Nat→Prop} {cs:List Value} (h:AZ w Q e cs):∀v∈cs,v.oneCell'=true:=by
 obtain⟨vm,vb,vk,rfl,h1,h2,h3⟩:=h.open_;obtain⟨A1,n1,c1,rfl, -⟩:=h1.slice;obtain⟨A2,n2,c2,rfl, -⟩:=h2.slice;obtain⟨A3,n3,c3,rfl, -⟩:=h3.slice;intro v hv;simp[AC]at hv;rcases hv with rfl|rfl|rfl|rfl|rfl|rfl|rfl|rfl|rfl|rfl|rfl<;>rfl
theorem LU {ops:Array Oper} {rest:List Oper} {o:Oper} {a:Act} {Q:Exit→Act→World→Prop} (hgd:o.guard=none) (s x:Operand)
  (ho:o.op= .call { callee:= .builtin .append,args:=#[s,x],argTypes:=#[27,27] })
  {wr w3:World} {B0 M:Nat} {es:List Ex} {rows:List (List Value)} {e:Ex} {v v1 v2 v3:Value} {c:Nat} (hs:a.eval s=v) (hx:a.eval x= .slice (some ⟨w3.heap.size,0,none⟩) 1 c) (hc:1≤c)
  (hM:B8 wr M 29 11 v rows) (hT:Ch wr (J9 B0 M v wr.heap.size) es rows) (hB:B0≤M) (hM2:M≤wr.heap.size) (g3:A4 wr w3) (he:AZ w3 (DK B0 wr.heap.size w3.heap.size) e (AC e v1 v2 v3)) (hn:es.length<1099511627)
  (h:∀A n c w6,Hid (∃rows',B8 w6 M 29 11 (.slice A n c) rows'∧Ch w6 (J9 B0 M (.slice A n c) w6.heap.size) (es++[e]) rows'∧AA (fun i=>M≤i) wr w6)→wpList Tryz.prog ops Q rest (a.put o.dst (.slice A n c)) w6):
  wpList Tryz.prog ops Q (o::rest) a (w3.alloc (.cells (List.foldl (fun(cs:Array Value) (x:Value×Nat)=>cs.setIfInBounds x.snd x.fst) #[.int .i64 0,.int .i64 0,.int .i64 0,.int .i64 0,.int .i64 0,.int .i64 0,.int .i64 0,.string ⟨#[]⟩,.slice none 0 0,.slice none 0 0,.slice none 0 0] (AC e v1 v2 v3).zipIdx) 29)):=by
 rw[Tt];have hM3:=hM.grew g3;refine RZ U4 hgd s x ho hs (hM3.alloc _) w3.heap.size c (AC e v1 v2 v3) 29 hx hc (VW w3 29 _) rfl (Ap he) (by rw[hT.1];exact hn) (by have:=g3.size;simp;omega) ?_;intro r cap w6 hM6 hk6 hr6 hbr6 hlr6;exact h _ _ _ _ (V3 ⟨_,hM6,hT.step hM hB hM2 g3 he hk6 hr6,VV ((g3.keeps (S:=fun i=>M≤i)).alloc _) hk6 fun i hi e=>(hM3.lt i e).1⟩)
theorem OO {P:Program} {ops:Array Oper} {rest:List Oper} {o:Oper} {a:Act} {Q:Exit→Act→World→Prop} {w:World} (T:TypeId) (l c:Operand) (_:o.op= .makeSlice T l c) (h:wpList P ops Q (o::rest) a w):wpList P ops Q (o::rest) a w:=h
theorem R6 {ops:Array Oper} {rest:List Oper} {o:Oper} {a:Act} {Q:Exit→Act→World→Prop} {w:World} (hgd:o.guard=none) (l c:Operand) (ho:o.op= .makeSlice 27 l c) (n:Nat) (hl:a.eval l= .int .i64 0) (hc:a.eval c= .int .i64 (n:Nat)) (hn:n≤1000000)
  (h:∀w',B8 w' w.heap.size 29 11 (.slice (some ⟨w.heap.size,0,none⟩) 0 n) []→A4 w w'→wpList Tryz.prog ops Q rest (a.put o.dst (.slice (some ⟨w.heap.size,0,none⟩) 0 n)) w'):wpList Tryz.prog ops Q (o::rest) a w:=by
 obtain⟨i,hi,hz,hs,hby⟩:=info_parts U4.info;refine wpList_make_own w hgd l c 27 ho w.heap.size 29 i IT 11 Tryz.underlying27 hi hz hs .i64 .i64 n n hl hc rfl (by rw[hby];omega) (by unfold maxLen;omega) (V6 _) fun w' h1 h2=>h w' ⟨h1,by intro r hr;cases hr⟩ ((VY _ w).grown h2 fun k e _=>by cases e)
theorem NN (e:Ex) (ks:List Ex) (a b c:Value):AC (e.withKids ks) a b c=AC e a b c:=by cases e;rfl
end Go.Proofs.YthpflelgbadkcaaGreatDoor
