/- What the card of the law stands on: TRows, LateG, LateR, PlStk, PlTreeA. -/
import Derived.Test.YthpflelgbadkcaaGreatDoorRewriteTypesP01
import Derived.Test.YthpflelgbadkcaaGreatDoorRewriteTypesP40
import Derived.Test.YthpflelgbadkcaaGreatDoorRewriteTypesP39
import Derived.Test.YthpflelgbadkcaaGreatDoorRewriteTypesP07
import Derived.Test.YthpflelgbadkcaaGreatDoorRewriteTypesP22
import Derived.Test.YthpflelgbadkcaaGreatDoorRewriteTypesP41
import Derived.Test.YthpflelgbadkcaaGreatDoorRewriteTypesP06
set_option maxRecDepth 100000
set_option maxHeartbeats 12800000
set_option linter.unusedVariables false
set_option linter.unusedSimpArgs false
namespace Go.Proofs.YthpflelgbadkcaaGreatDoor
open Go.RowKit Go.Shelf Pl
def RV (ls:List ByteArray) (w:World) (e:Ending) (w':World):Prop:=∃v,e= .returned v∧Ba w' (fun b=>b<w'.heap.size) 1 v (ls.map fun s=>[Value.string s])∧A4 w w'
theorem Dg {e:Ex} (h:Be e):BW He e:=BW.mono (fun _ h=>Eg h.2) (AH e) e (V6 _) h
theorem Ef (ET:Int) (ds:List Du):∀(k:Nat) (e:Ex),AH e≤k→Be e→BJ e=false→∀(w:World) (cs:List Value),BU w w.heap.size e cs→
  Calls Tryz.prog 50 #[.agg cs.toArray] w (RV (vE ET ds e).2.2 w)
 |0,e,h,_,_,_,_,_=>absurd (Aj e) (by omega)
 |k+1,e,hk,hg0,hrow,w,cs,hr=>by
  obtain⟨vm,vb,vk,rfl, -,hy,hT⟩:=hr.open_;have hne:=Az e;rcases FK hg0.top.2 with⟨h0, -⟩|⟨h0, -⟩|⟨h0,a,hks⟩|⟨h0,ea,eb,hks⟩
  ·rw[DA,h0]at hrow;cases hrow
  ·rw[H9 h0];have t1:(e.kind==1)=true:=by rw[VC];exact h0
   have hb:=VW w 29 (AC e vm vb vk).toArray;have hg:=(VU w).alloc (.cells (AC e vm vb vk).toArray 29);clear hr hT hk hne h0 hy hrow;go_enter Tryz.func50,Tryz.ntmps50;go_upto_region 1 with fail;change Code.wp _ _ _ _ (w.alloc (.cells (AC e vm vb vk).toArray 29));generalize w.alloc (.cells (AC e vm vb vk).toArray 29)=w1 at*;have c0:w1.cell? ⟨w.heap.size,0,none⟩=some (.int .i64 e.kind):=hb.cell 0;have HG:=V3 hg;have HBx:=V3 hb;clear hb hg;go_wp2_with fail;go_ret;refine⟨_,rfl,?_,HG.out.alloc _⟩;have hb9:=VW w1 9 #[Value.string ⟨#[42]⟩];refine⟨_,1,rfl,V6 _,fun _=>⟨w1.heap.size,0,rfl,hb9.lt,fun j cs hj=>?_⟩⟩;rcases j with _|j
   ·obtain rfl:[Value.string ⟨#[42]⟩]=cs:=by simpa using hj
    intro i u hu;rcases i with _|i
    ·obtain rfl:Value.string ⟨#[42]⟩=u:=by simpa using hu
     exact hb9.cell 0
    simp at hu
   simp at hj
  ·rw[F5 h0 hks];have t1:(e.kind==1)=false:=by rw[h0];rfl
   have t2:(e.kind==2)=true:=by rw[VC];exact h0
   obtain⟨Ab,nb,cb,rfl, -, -⟩:∃A n c,vb= .slice A n c∧n=e.bys.length∧n≤c:=by obtain⟨A,c,h,hc, -⟩:=hy;exact⟨A,_,c,h,by simp,by simpa using hc⟩
   have HC:=V3 (fun w' (g:A4 w w')=>J0 (.slice Ab nb cb) (e.bys.map fun s=>[Value.string s]) w' (hy.keep (V6 _) g.size g (fun _ _ h=>h)) (ML _) (Ll _) (by rw[List.length_map];exact VD hg0.top.1.2.2.2.2.2 (by decide)));have hb:=VW w 29 (AC e vm (.slice Ab nb cb) vk).toArray;have hg:=(VU w).alloc (.cells (AC e vm (.slice Ab nb cb) vk).toArray 29);clear hr hT hk hne h0 hy hrow hks;go_enter Tryz.func50,Tryz.ntmps50;go_upto_region 1 with fail;change Code.wp _ _ _ _ (w.alloc (.cells (AC e vm (.slice Ab nb cb) vk).toArray 29));generalize w.alloc (.cells (AC e vm (.slice Ab nb cb) vk).toArray 29)=w1 at*;have c0:w1.cell? ⟨w.heap.size,0,none⟩=some (.int .i64 e.kind):=hb.cell 0;have HG:=V3 hg;have HBx:=V3 hb;clear hb hg;have c9:w1.cell? ⟨w.heap.size,9,none⟩=some (.slice Ab nb cb):=HBx.out.cell 9;go_wp2_with(go_at_call 39;(with_reducible refine(HC.out _ HG.out).mono ?_);rintro e2 w2 ⟨v2,rfl,h2,k2⟩;have H2:=V3 h2;have HG2:=V3 (HG.out.trans k2);clear h2 k2);go_ret;exact⟨_,rfl,H2.out.keep (S:=fun _=>False) (fun b hb=>⟨hb.2,fun h=>h,hb.2⟩) (VU _),HG2.out⟩
  rw[Dr h0 hks,Bl];have t1:(e.kind==1)=false:=by rw[h0];rfl
  have t2:(e.kind==2)=false:=by rw[h0];rfl
  have ga:Be ea:=hg0.kid (by rw[hks];simp);have gb:Be eb:=hg0.kid (by rw[hks];simp);have hna:=AT (show ea∈e.kids by rw[hks];simp);have hnb:=AT (show eb∈e.kids by rw[hks];simp);rw[ga.vrow];have hF:(BJ ea&&BJ eb)=false:=by have h5:=DA e;rw[hks,Ep,h0,hrow]at h5;simpa using h5.symm
  obtain⟨b,o,c,ca,cb,rfl,hbb,hra,hrb,hea,heb⟩:=Fm hT hks;have HA:=V3 (fun w' (g:A4 w w')=>CL (AH ea) ea (V6 _) (Dg ga) w' ca (hea.grew g));have HRA:=V3 (fun(h:BJ ea=false) w' (g:A4 w w')=>Ef ET ds k ea (by omega) ga h w' ca (hea.grew g));have HRB:=V3 (fun(h:BJ eb=false) w' (g:A4 w w')=>Ef ET ds k eb (by omega) gb h w' cb (heb.grew g));have HL:=V3 (V5 (BC hea) (BC heb));have HRa:=V3 (show ∀w',A4 w w'→w'.rangeAt b o ca∧w'.rangeAt b (o+11) cb from fun w' g=>⟨AU hra hbb g (fun h=>h),AU hrb hbb g (fun h=>h)⟩);have hb:=VW w 29 (AC e vm vb (.slice (some ⟨b,o,none⟩) 2 c)).toArray;have hg:=(VU w).alloc (.cells (AC e vm vb (.slice (some ⟨b,o,none⟩) 2 c)).toArray 29);obtain⟨x,hx⟩:∃x,BJ ea=x:=⟨_,rfl⟩;rw[hx]at HA hF HRA ⊢;clear hr hT hk hne h0 hy hrow hna hnb hra hrb hea heb hks hx ga gb;go_enter Tryz.func50,Tryz.ntmps50;go_upto_region 1 with fail;change Code.wp _ _ _ _ (w.alloc (.cells (AC e vm vb (.slice (some ⟨b,o,none⟩) 2 c)).toArray 29));generalize w.alloc (.cells (AC e vm vb (.slice (some ⟨b,o,none⟩) 2 c)).toArray 29)=w1 at*;have c0:w1.cell? ⟨w.heap.size,0,none⟩=some (.int .i64 e.kind):=hb.cell 0;have HG:=V3 hg;have HBx:=V3 hb;clear hb hg;have c10:w1.cell? ⟨w.heap.size,10,none⟩=some (.slice (some ⟨b,o,none⟩) 2 c):=HBx.out.cell 10;go_upto_region 6 with fail;rcases x with _|_
  ·have HRA2:=V3 (HRA.out rfl);clear HRA;go_wp2_with(first|((with_reducible refine AF 29 (.tmp 15) rfl ?_);refine wpList_load_mid rfl 29 (.tmp 15) rfl b o rfl ca _ (HRa.out _ HG.out).1 Tryz.underlying29 rfl (by rw[HL.out.1];exact AE) ?_)|(go_at_call 49;(with_reducible refine(HA.out _ HG.out).mono ?_);rintro e2 w2 ⟨rfl,k2⟩;have HG2:=V3 (HG.out.trans k2);have d10:w2.cell? ⟨w.heap.size,10,none⟩=some (.slice (some ⟨b,o,none⟩) 2 c):=(HBx.out.grew k2).cell 10;clear k2)|((with_reducible refine AF 29 (.tmp 25) rfl ?_);refine wpList_load_mid rfl 29 (.tmp 25) rfl b o rfl ca _ (HRa.out _ HG2.out).1 Tryz.underlying29 rfl (by rw[HL.out.1];exact AE) ?_)|(go_at_call 50;(with_reducible refine(HRA2.out _ HG2.out).mono ?_);rintro e3 w3 ⟨v3,rfl,h3,k3⟩;have H3:=V3 h3;have HG3:=V3 (HG2.out.trans k3);clear h3 k3));go_ret;exact⟨_,rfl,H3.out,HG3.out⟩
  have hyb:BJ eb=false:=by simpa using hF
  have HRB2:=V3 (HRB.out hyb);clear HRB hyb hF;go_wp2_with(first|((with_reducible refine AF 29 (.tmp 15) rfl ?_);refine wpList_load_mid rfl 29 (.tmp 15) rfl b o rfl ca _ (HRa.out _ HG.out).1 Tryz.underlying29 rfl (by rw[HL.out.1];exact AE) ?_)|(go_at_call 49;(with_reducible refine(HA.out _ HG.out).mono ?_);rintro e2 w2 ⟨rfl,k2⟩;have HG2:=V3 (HG.out.trans k2);have d10:w2.cell? ⟨w.heap.size,10,none⟩=some (.slice (some ⟨b,o,none⟩) 2 c):=(HBx.out.grew k2).cell 10;clear k2)|((with_reducible refine AF 29 (.tmp 20) rfl ?_);refine wpList_load_mid rfl 29 (.tmp 20) rfl b (o+11) rfl cb _ (HRa.out _ HG2.out).2 Tryz.underlying29 rfl (by rw[HL.out.2];exact AE) ?_)|(go_at_call 50;(with_reducible refine(HRB2.out _ HG2.out).mono ?_);rintro e3 w3 ⟨v3,rfl,h3,k3⟩;have H3:=V3 h3;have HG3:=V3 (HG2.out.trans k3);clear h3 k3));go_ret;exact⟨_,rfl,H3.out,HG3.out⟩
end Go.Proofs.YthpflelgbadkcaaGreatDoor
namespace Go.Proofs.YthpflelgbadkcaaGreatDoor
open Go.RowKit
section
variable {P:Program} {md:Region.Mode} {ops:Array Oper} {Q:Exit→Act→World→Prop} {Gs:List (Nat×(World→Prop))}
theorem Cb (mid:List Nat) (s:Nat) (A:World→Prop) {i:Nat} {oi:Oper} {fuel:Nat} {listed:Array Bool} {a:Act} {w:World} (hi:ops[i]? =some oi)
  (hs:Region.noSelect ops=true) (hf:Region.free md ops listed i=true) (hr:(Region.ready md ops listed).contains i=true) (hcl:Ae md ops listed) (hK:B6 Gs listed w) (hne':(Gs.map (·.1)).contains i=false)
  (k:Nat) (hm':Gs[k]? =some (s,A)) (hw:JI md ops (s::(mid++[i]))=true) (ty:TypeId) (x:Operand) (ho:oi.op= .load ty x) (b o:Nat) (hx:a.eval x= .pointer (some ⟨b,o,none⟩)) (cs:List Value) (d:TypeDesc) (hS:∀w,A w→w.rangeAt b o cs)
  (hu:P.underlying ty=some d) (hd:d.isRow=true) (hin:(P.info? ty).map (·.size)=some cs.length)
  (hQ:∀c a w,Q (.panic c) (a.put oi.dst (.agg cs.toArray)) w→Q (.panic c) a w) (hgd:Region.wanted oi (yielded ops a.tmps)=true)
  (h:Ae md ops (listed.setIfInBounds i true)→B6 Gs (listed.setIfInBounds i true) w→BA P md ops Q Gs fuel (listed.setIfInBounds i true) (a.put oi.dst (.agg cs.toArray)) w):BA P md ops Q Gs (fuel+1) listed a w:=by
 have hr':i∈Region.ready md ops listed:=by simpa using hr
 have hne:=Dy hne';refine Ce hi (Region.noSelect_spec hs) hQ hne fuel listed a w hcl (Region.free_spec hi hf) hr' (.inl ⟨hgd,fun w' ⟨l,h1,h2,h3⟩=>?_⟩) hK (h (hcl.set hr') ((B6.set hne).2 hK));have hA:=h3 _ (VJ hm') (h1.path (getD_both h2) mid s hw);unfold execOp;simp only[ho,hx,Instr.loadAt,Instr.sureAddr,Sem.run_bind,Sem.run_pure,Result.andThen_ok,run_loadVar_mid w' b o ty cs d (hS w' hA) hu hd hin]
theorem Eo {i:Nat} {oi:Oper} {fuel:Nat} {listed:Array Bool} {a:Act} {w:World} (hcl:Ae md ops listed) (hr:Region.ready md ops listed=[i]) (hi:ops[i]? =some oi) (hgd:Region.wanted oi (yielded ops a.tmps)=true)
  (h:∀K:Act→World→Prop,(∀a' w',B6 Gs (listed.setIfInBounds i true) w'→(Ae md ops (listed.setIfInBounds i true)→B6 Gs (listed.setIfInBounds i true) w'→BA P md ops Q Gs fuel (listed.setIfInBounds i true) a' w')→K a' w')→oi.wp P a w K Q):BA P md ops Q Gs (fuel+1) listed a w:=by
 refine⟨(fun h0=>by rw[hr]at h0;cases h0),fun j hj=>?_⟩;have hj':=hj;rw[hr]at hj;have:j=i:=by simpa using hj
 subst this;unfold wpOp;simp only[hi,hgd,if_true];exact .inl (h _ fun a' w' h1 h2=>⟨h1,h2 (hcl.set hj') h1⟩)
end
section
variable {P:Program} {md:Region.Mode} {ops:Array Oper} {Q:Exit→Act→World→Prop} {Gs:List (Nat×(World→Prop))}
theorem GR (mid:List Nat) (s:Nat) (A:World→Prop) {i:Nat} {oi:Oper} {v:Value} {fuel:Nat} {listed:Array Bool} {a:Act} {w:World} (hi:ops[i]? =some oi)
  (hs:Region.noSelect ops=true) (hf:Region.free md ops listed i=true) (hr:(Region.ready md ops listed).contains i=true) (hcl:Ae md ops listed) (hK:B6 Gs listed w) (hne':(Gs.map (·.1)).contains i=false)
  (k:Nat) (hm':Gs[k]? =some (s,A)) (hw:JI md ops (s::(mid++[i]))=true)
  (hQ:∀c a w,Q (.panic c) (a.put oi.dst v) w→Q (.panic c) a w) (hgd:Region.wanted oi (yielded ops a.tmps)=true) (hy:∀w,A w→(execOp a.eval oi).run P w= .ok (.value v) w)
  (h:Ae md ops (listed.setIfInBounds i true)→B6 Gs (listed.setIfInBounds i true) w→BA P md ops Q Gs fuel (listed.setIfInBounds i true) (a.put oi.dst v) w):BA P md ops Q Gs (fuel+1) listed a w:=by
 have hr':i∈Region.ready md ops listed:=by simpa using hr
 have hne:=Dy hne';exact Ce hi (Region.noSelect_spec hs) hQ hne fuel listed a w hcl (Region.free_spec hi hf) hr' (.inl ⟨hgd,fun w ⟨l,h1,h2,h3⟩=>hy w (h3 _ (VJ hm') (h1.path (getD_both h2) mid s hw))⟩) hK (h (hcl.set hr') ((B6.set hne).2 hK))
theorem BQ {i:Nat} {oi:Oper} {fuel:Nat} {listed:Array Bool} {a:Act} {w:World} (hi:ops[i]? =some oi)
  (hs:Region.noSelect ops=true) (hf:Region.free md ops listed i=true) (hr:(Region.ready md ops listed).contains i=true) (hcl:Ae md ops listed) (hK:B6 Gs listed w) (hne':(Gs.map (·.1)).contains i=false)
  (hQ:∀c a w,Q (.panic c) (a.put oi.dst undef) w→Q (.panic c) a w) (hgd:Region.wanted oi (yielded ops a.tmps)=false)
  (h:Ae md ops (listed.setIfInBounds i true)→B6 Gs (listed.setIfInBounds i true) w→BA P md ops Q Gs fuel (listed.setIfInBounds i true) (a.put oi.dst undef) w):BA P md ops Q Gs (fuel+1) listed a w:=by
 have hr':i∈Region.ready md ops listed:=by simpa using hr
 have hne:=Dy hne';exact Ce hi (Region.noSelect_spec hs) hQ hne fuel listed a w hcl (Region.free_spec hi hf) hr' (.inr ⟨hgd,rfl⟩) hK (h (hcl.set hr') ((B6.set hne).2 hK))
end
end Go.Proofs.YthpflelgbadkcaaGreatDoor
namespace Go.Proofs.YthpflelgbadkcaaGreatDoor
open Go.RowKit Pl
end Go.Proofs.YthpflelgbadkcaaGreatDoor
namespace Go.Proofs.YthpflelgbadkcaaGreatDoor
open Go.RowKit Go.Shelf Pl
section
variable {w w':World} {Q Q':Nat→Prop} {base:Nat} {t:TypeId} {A:Option Addr} {n c r:Nat} {rows:List (List Value)} {es:List Ex}
end
theorem GE {o:Oper} {a:Act} {w:World} {K:Act→World→Prop} {Q:Exit→Act→World→Prop} (ho:o.op= .alloc 29) (h:∀w',AR w' w.heap.size 29 (AJ 0 0).toArray→A4 w w'→K (a.put o.dst (.pointer (some ⟨w.heap.size,0,none⟩))) w'):o.wp Tryz.prog a w K Q:=by
 have h2:=h _ (VW w 29 (AJ 0 0).toArray) ((VU w).alloc _);unfold Oper.wp execOp;simp only[ho];go_simp;exact h2
section
variable {P:Program} {md:Region.Mode} {ops:Array Oper} {Q:Exit→Act→World→Prop} {Gs:List (Nat×(World→Prop))}
theorem OQ {i j:Nat} {oi oj:Oper} {fuel:Nat} {listed:Array Bool} {a:Act} {w:World} (hcl:Ae md ops listed) (hr:Region.ready md ops listed=[i,j]) (hi:ops[i]? =some oi) (hgi:oi.guard=none) (hj:ops[j]? =some oj) (hgj:oj.guard=none)
  (h1:∀K:Act→World→Prop,(∀a' w',B6 Gs (listed.setIfInBounds i true) w'→(Ae md ops (listed.setIfInBounds i true)→B6 Gs (listed.setIfInBounds i true) w'→BA P md ops Q Gs fuel (listed.setIfInBounds i true) a' w')→K a' w')→oi.wp P a w K Q)
  (h2:∀K:Act→World→Prop,(∀a' w',B6 Gs (listed.setIfInBounds j true) w'→(Ae md ops (listed.setIfInBounds j true)→B6 Gs (listed.setIfInBounds j true) w'→BA P md ops Q Gs fuel (listed.setIfInBounds j true) a' w')→K a' w')→oj.wp P a w K Q):BA P md ops Q Gs (fuel+1) listed a w:=by
 refine⟨(fun h0=>by rw[hr]at h0;cases h0),fun k hk=>?_⟩;have hk':=hk;rw[hr]at hk;rcases List.mem_cons.1 hk with hk|hk
 ·subst hk;unfold wpOp;simp only[hi,Region.wanted,hgi,if_true];exact .inl (h1 _ fun a' w' h3 h4=>⟨h3,h4 (hcl.set hk') h3⟩)
 obtain rfl:=VF.1 hk;unfold wpOp;simp only[hj,Region.wanted,hgj,if_true];exact .inl (h2 _ fun a' w' h3 h4=>⟨h3,h4 (hcl.set hk') h3⟩)
end
end Go.Proofs.YthpflelgbadkcaaGreatDoor
