/- What the card of the law stands on: OrdG, Named, Shaped. -/
import Derived.Test.YthpflelgbadkcaaGreatDoorRewriteReadsP01
import Derived.Test.YthpflelgbadkcaaGreatDoorRewriteReadsP03
import Derived.Test.YthpflelgbadkcaaGreatDoorRewriteReadsP08
import Derived.Laws.Cover1
import Derived.Deep.DeepCutAuto
import Derived.Test.YthpflelgbadkcaaGreatDoorRewriteReadsP06
import Derived.Test.YthpflelgbadkcaaGreatDoorRewriteReadsP04
import Derived.Test.YthpflelgbadkcaaGreatDoorRewriteReadsP02
set_option maxRecDepth 100000
set_option maxHeartbeats 12800000
set_option linter.unusedVariables false
set_option linter.unusedSimpArgs false
namespace Go.Proofs.YthpflelgbadkcaaGreatDoor
open Go.RowKit
section
variable {P:Program} {ops:Array Oper} {Q:Exit→Act→World→Prop} {md:Region.Mode}
def FX (md:Region.Mode) (ops:Array Oper) (i:Nat) (t:Tmp):Bool:=(List.range ops.size).all fun j=>match ops[j]? with|some oj=>oj.dst !=some t||Region.waitsFor md ops i j|none=>true
def I5 (md:Region.Mode) (ops:Array Oper) (i:Nat):Bool:=match ops[i]? with
 |some o=>(match o.guard with
   |none=>true
   |some (j,_)=>match ops[j]? with
    |some oj=>match oj.dst with
     |some t=>FX md ops i t
     |none=>true
    |none=>true)&&(o.op.operands.all fun x=>match x with
   | .tmp t=>FX md ops i t
   |_=>true)
 |none=>false
def K8 (md:Region.Mode) (ops:Array Oper):Bool:=(List.range ops.size).all (I5 md ops)&&Kt md ops
structure QG (ops:Array Oper) (G:Act) (w0:World) (listed:Array Bool) (a:Act) (w:World):Prop where
 ex:∀k,(∀j o,ops[j]? =some o→o.dst=some k→listed.getD j false=true)→a.tmps[k]? =G.tmps[k]?
 sz:a.tmps.size=G.tmps.size
 df:a.defers=G.defers
 grew:A5 w0 w
 size:listed.size=ops.size
theorem Mb {G:Act} {w0:World} {listed:Array Bool} {a:Act} {w:World} {i:Nat} {t:Tmp} {oi:Oper} (hI:QG ops G w0 listed a w) (hoi:ops[i]? =some oi) (hdep:∀e∈oi.after,Region.binds md e=true→listed.getD e.on false=true) (h:FX md ops i t=true):a.tmps[t]? =G.tmps[t]? :=
 hI.ex t fun j o ho hod=>by
  have hj:j<ops.size:=(SO.1 ho).1;have h3:=List.all_eq_true.1 h j (List.mem_range.2 hj);simp only[ho,hod]at h3;have h4:Region.waitsFor md ops i j=true:=by simpa using h3
  obtain⟨o',ho',e,he,hbd,hon⟩:=Region.waitsFor_spec h4;obtain rfl:oi=o':=SI (hoi.symm.trans ho');rw[←hon];exact hdep e he hbd
theorem Q7 (hB0:K8 md ops=true) (hs:Region.noSelect ops=true) (G:Act) (w0:World)
  (hst:∀(i:Nat) (o:Oper),ops[i]? =some o→(Region.wanted o (yielded ops G.tmps)=true→∀w,A5 w0 w→o.wp P G w (fun a' w'=>a'=G∧A5 w w') (fun _ _ _=>False))∧(Region.wanted o (yielded ops G.tmps)=false→G.put o.dst undef=G))
  (T:∀w fuel,A5 w0 w→wpAny P md ops Q fuel (E7 ops.size ops.size) G w):
  ∀fuel listed a w,QG ops G w0 listed a w→Dx ops.size listed≤fuel→wpAny P md ops Q fuel listed a w:=by
 unfold K8 at hB0;simp only[Bool.and_eq_true]at hB0;obtain⟨hhd,hbk⟩:=hB0;have hdone:∀fuel listed a w,QG ops G w0 listed a w→Dx ops.size listed=0→wpAny P md ops Q fuel listed a w:=by
  intro fuel listed a w hI h0;have hall:=ER h0;have ha:a=G:=by
   have ht:a.tmps=G.tmps:=Array.ext_getElem? fun k=>hI.ex k fun j o ho _=>hall j (SO.1 ho).1
   have hd:=hI.df;cases a;cases G;simp at ht hd;rw[ht,hd]
  rw[ha,KP hI.size hall (fun i hi=>by rw[Array.getD_eq_getD_getElem?,Array.getElem?_eq_none (by rw[hI.size];exact hi)];rfl)];exact T w fuel hI.grew
 intro fuel
 induction fuel with
 |zero=>intro listed a w hI hc;exact hdone 0 listed a w hI (by omega)
 |succ fuel ih=>
  intro listed a w hI hc;rcases Nat.eq_zero_or_pos (Dx ops.size listed)with h0|hpos
  ·exact hdone (fuel+1) listed a w hI h0
  obtain⟨j0,hj0,hl0⟩:=Gj hpos;refine⟨fun hr=>absurd hr (CJ hbk hI.size j0 j0 (SD _) (by omega) hl0),fun i hi=>?_⟩;obtain⟨hun,oi,hoi,hdep⟩:=mem_ready.1 hi;have hisz:i<ops.size:=(SO.1 hoi).1;have hun':listed.getD i false=false:=getD_both hun;have hhi:=List.all_eq_true.1 hhd i (List.mem_range.2 hisz);unfold I5 at hhi;simp only[hoi,Bool.and_eq_true]at hhi;obtain⟨hgd,hopr⟩:=hhi;have hc':Dx ops.size (listed.setIfInBounds i true)+1=Dx ops.size listed:=Gc listed ops.size i hisz (by rw[hI.size];exact hisz) hun';have hsz':(listed.setIfInBounds i true).size=ops.size:=by rw[Array.size_setIfInBounds,hI.size]
  have hdep':∀e∈oi.after,Region.binds md e=true→listed.getD e.on false=true:=hdep;have hwt:Region.wanted oi (yielded ops a.tmps)=Region.wanted oi (yielded ops G.tmps):=by
   unfold Region.wanted;cases hg:oi.guard with
   |none=>rfl
   |some p=>
    obtain⟨j,b⟩:=p;rw[hg]at hgd;simp only at hgd ⊢;have:yielded ops a.tmps j=yielded ops G.tmps j:=by
     unfold yielded;cases hoj:ops[j]? with
     |none=>rfl
     |some oj=>
      rw[hoj]at hgd;simp only at hgd;cases hdj:oj.dst with
      |none=>simp[hdj]
      |some t=>
       rw[hdj]at hgd;simp only[Option.bind_some,hdj];rw[Mb hI hoi hdep' hgd]
    rw[this]
  have key:∀v w',(G.put oi.dst v=G)→A5 w w'→QG ops G w0 (listed.setIfInBounds i true) (a.put oi.dst v) w':=fun v w' hv hg=>by
   refine⟨fun k hkk=>?_,?_,?_,hI.grew.trans hg,hsz'⟩
   ·cases hd:oi.dst with
    |none=>
     refine hI.ex k fun j o ho hod=>?_
     have h1:=hkk j o ho hod;by_cases hij:i=j
     ·subst hij;obtain rfl:oi=o:=SI (hoi.symm.trans ho);rw[hd]at hod;cases hod
     rwa[getD_set_ne false hij]at h1
    |some d=>
     rw[hd]at hv;rw[Bu];by_cases hdk:d=k
     ·subst hdk;rw[SR rfl];have h1:(G.put (some d) v).tmps[d]? =G.tmps[d]? :=by rw[hv]
      rw[Bu,SR rfl]at h1;rw[←h1,hI.sz]
     rw[SQ hdk];refine hI.ex k fun j o ho hod=>?_
     have h1:=hkk j o ho hod;by_cases hij:i=j
     ·subst hij;obtain rfl:oi=o:=SI (hoi.symm.trans ho);rw[hd]at hod;exact absurd (SI hod) hdk
     rwa[getD_set_ne false hij]at h1
   ·cases oi.dst with
    |none=>exact hI.sz
    |some d=>simp only[Act.put,Array.size_setIfInBounds];exact hI.sz
   cases oi.dst with
   |none=>exact hI.df
   |some d=>exact hI.df
  obtain⟨hst1,hst2⟩:=hst i oi hoi;unfold wpOp;simp only[hoi];rw[hwt];cases hww:Region.wanted oi (yielded ops G.tmps)with
  |true=>
   rw[SR rfl];refine .inl ?_;refine Cj (fun cs b=>Region.noSelect_spec hs i oi cs b hoi) (hst1 hww w hI.grew) (fun x hx=>?_) fun v w' hv hg=>ih _ _ _ (key v w' hv hg) (by omega)
   cases x with
   |tmp t=>
    have h1:=Array.all_eq_true'.1 hopr _ hx;simp only[Act.eval,Array.getD_eq_getD_getElem?,Mb hI hoi hdep' h1]
   |_=>rfl
  |false=>
   rw[SQ (by simp)];exact ih _ _ _ (key undef w (hst2 hww) (Sa _)) (by omega)
def D9 (P:Program) (ops:Array Oper) (w0:World) (G:Act):List Oper→Prop
 |[]=>True
 |o::r=>((Region.wanted o (yielded ops G.tmps)=true→∀w,A5 w0 w→o.wp P G w (fun a' w'=>a'=G∧A5 w w') (fun _ _ _=>False))∧(Region.wanted o (yielded ops G.tmps)=false→G.put o.dst undef=G))∧D9 P ops w0 G r
theorem AQ {w0:World} {G:Act}:D9 P ops w0 G []:=trivial
theorem A4 {w0:World} {G:Act} {o:Oper} {r:List Oper} (hw:Region.wanted o (yielded ops G.tmps)=true) (h:∀w,A5 w0 w→o.wp P G w (fun a' w'=>a'=G∧A5 w w') (fun _ _ _=>False)) (h2:D9 P ops w0 G r):D9 P ops w0 G (o::r):=⟨⟨fun _=>h,(fun e=>by rw[hw]at e;cases e)⟩,h2⟩
theorem AA {w0:World} {G:Act} {o:Oper} {r:List Oper} (hw:Region.wanted o (yielded ops G.tmps)=false) (h:G.put o.dst undef=G) (h2:D9 P ops w0 G r):D9 P ops w0 G (o::r):=⟨⟨(fun e=>by rw[hw]at e;cases e),fun _=>h⟩,h2⟩
theorem Hn {w0:World} {G:Act} {l:List Oper} (h:D9 P ops w0 G l):∀(i:Nat) (o:Oper),l[i]? =some o→(Region.wanted o (yielded ops G.tmps)=true→∀w,A5 w0 w→o.wp P G w (fun a' w'=>a'=G∧A5 w w') (fun _ _ _=>False))∧(Region.wanted o (yielded ops G.tmps)=false→G.put o.dst undef=G):=by
 induction l with
 |nil=>intro i o ho;simp at ho
 |cons b r ih=>
  intro i o ho;unfold D9 at h;cases i with
  |zero=>
   have e:b=o:=by simpa using ho
   rw[←e];exact h.1
  |succ i=>exact ih h.2 i o (by simpa using ho)
theorem Lf {id:Nat} {a:Act} {w:World} (hm:P.follows .mixedOrders=true) (vals:List Value) (G:Act) (hB0:K8 .any ops=true) (hs:Region.noSelect ops=true)
  (hG:G=AI ops.toList vals a) (hH:D9 P ops w.drew G ops.toList) (hr:Region.ready .any ops (E7 ops.size ops.size)=[])
  (h:∀w1,A5 w w1→Q .normal G w1):(Code.region id ops true).wp P Q a w:=by
 refine wp_region_any hm ?_;have hsz:G.tmps.size=a.tmps.size:=by rw[hG];exact(BH _ _ _).1
 have hdf:G.defers=a.defers:=by rw[hG];exact(BH _ _ _).2
 refine Q7 hB0 hs G w.drew (fun i o ho=>Hn hH i o (by simpa using ho)) ?_ ops.size _ _ _ ⟨fun k hk=>?_,hsz.symm,hdf.symm,Sa _,by simp⟩ ?_
 ·intro w1 fuel hg;have hg':A5 w w1:=(Sd (Sa w)).trans hg;cases fuel with
  |zero=>exact⟨hr,h w1 hg'⟩
  |succ f=>exact⟨fun _=>h w1 hg',by rw[hr];simp⟩
 ·rw[hG];refine(CN _ _ _ k fun o ho=>?_).symm;intro hod;obtain⟨j,hj⟩:=List.getElem?_of_mem ho;have hjo:ops[j]? =some o:=by simpa using hj
  have:=hk j o hjo hod;rw[getD_replicate_false]at this;cases this
 have:∀(n m:Nat),Dx m (Array.replicate n false)≤m:=by
  intro n m
  induction m with
  |zero=>exact SD _
  |succ m ih=>unfold Dx;split<;>omega
 exact this _ _
end
end Go.Proofs.YthpflelgbadkcaaGreatDoor
namespace Go.Proofs.YthpflelgbadkcaaGreatDoor
open Go.RowKit Pl
def D5 (w:World):Prop:=0<w.heap.size∧∀j s,DC[j]? =some s→w.cell? ⟨0,j,none⟩=some (.string s)
theorem D5.grew {w w':World} (h:D5 w) (g:A5 w w'):D5 w':=⟨SE h.1 g.size,fun j s hj=>(World.cell?_of_block (a:=⟨0,j,none⟩) (g.block _ h.1 (fun e=>e))).trans (h.2 j s hj)⟩
theorem D5.rd {w:World} (h:D5 w):Ch w w.heap.size 1 (.slice (some ⟨0,0,none⟩) 5 5) (DC.map fun s=>[Value.string s]):=by
 refine⟨_,5,rfl,by decide,fun _=>⟨_,0,rfl,h.1,fun j cs hj k u hk=>?_⟩⟩;rw[Nat.zero_add,Nat.mul_one];rw[List.getElem?_map]at hj;obtain⟨x,hx,rfl⟩:=Option.map_eq_some_iff.1 hj;obtain⟨rfl,rfl⟩:k=0∧Value.string x=u:=by
  cases k with
  |zero=>exact⟨rfl,by simpa using hk⟩
  |succ k=>simp at hk
 exact h.2 j x hx
theorem My (e:Ex) (Am Ab A:Option Addr) (nm km nb kb n c:Nat) (hnm:nm=e.ms.length) (hnb:nb=e.bys.length) (w:World) (hms:Ch w w.heap.size 3 (.slice Am nm km) (e.ms.map Au)) (hby:Ch w w.heap.size 1 (.slice Ab nb kb) (e.bys.map fun s=>[Value.string s])) (hx:Qn e) (hw:D5 w):Calls Tryz.prog 64 #[.agg (AE e (.slice Am nm km) (.slice Ab nb kb) (.slice A n c)).toArray] w fun e' w'=>e'= .returned (.bool (Bo e))∧A5 w w':=by
 obtain⟨hx1,hx2,hx3,hx4,hx5⟩:=hx;have hb:=Sc w 29 (AE e (.slice Am nm km) (.slice Ab nb kb) (.slice A n c)).toArray;have hG:=(Sa w).alloc (.cells (AE e (.slice Am nm km) (.slice Ab nb kb) (.slice A n c)).toArray 29);have HT:=S9 hw;have HNM:=S9 hnm;have HNB:=S9 hnb;have hnml:nm≤1000:=by omega
 have hnbl:nb≤1000:=by omega
 have HX1:=S9 hx1;have HX2:=S9 hx2;have HX3:=S9 hx3;have HMS:=S9 hms;have HBY:=S9 hby;clear hnm hnb hx1 hx2 hx3 hx4 hx5 hms hby hw;go_enter Tryz.func64,Tryz.ntmps64;go_upto_region 1 with fail;generalize w.alloc (.cells (AE e (.slice Am nm km) (.slice Ab nb kb) (.slice A n c)).toArray 29)=w1 at*;have c0:w1.cell? ⟨w.heap.size,0,none⟩=some (.int .i64 e.kind):=hb.cell 0;have c7:w1.cell? ⟨w.heap.size,7,none⟩=some (.string e.name):=hb.cell 7;have HG:=S9 hG;have HB:=S9 hb;clear hG hb;go_cut [21] (fun s wx=>s= .bool (Cn e)∧A5 w1 wx)
 case first=>
  by_cases hk:e.kind=1
  ·have t0:(e.kind==1)=true:=by simpa using hk
   obtain⟨q1,hq1⟩:∃q,CQ e.name=q:=⟨_,rfl⟩;obtain⟨q2,hq2⟩:∃q,Ht DC e.name=q:=⟨_,rfl⟩;have HV:=S9 (show Cn e=(!q1||q2) by unfold Cn;rw[hq1,hq2,decide_eq_true hk];rfl);have HNm:=S9 (show ∀w',Calls Tryz.prog 93 #[.string e.name] w' fun e' w''=>e'= .returned (.bool q1)∧A5 w' w'' from fun w'=>by have:=Iw e.name HX1.out.1 w';rwa[hq1]at this);have HHas:=S9 (show ∀w',A5 w1 w'→Calls Tryz.prog 94 #[.slice (some ⟨0,0,none⟩) 5 5,.string e.name] w' fun e' w''=>e'= .returned (.bool q2)∧w''=w' from fun w' g=>by have:=Ju _ DC e.name w' ((HT.out.grew (HG.out.trans g)).rd) (by decide);rwa[hq2]at this);have HK:=S9 (show ∀w',A5 w1 w'→A5 w1 w'∧w'.cell? ⟨w.heap.size,0,none⟩=some (.int .i64 e.kind)∧w'.cell? ⟨w.heap.size,7,none⟩=some (.string e.name)from fun w' g=>⟨g,(HB.out.grew g).cell 0,(HB.out.grew g).cell 7⟩);have g0:=Sa w1;clear hk hq1 hq2;have HK:=S9 (show ∀w',A5 w1.drew w'→A5 w1 w'∧w'.cell? ⟨w.heap.size,0,none⟩=some (.int .i64 e.kind)∧w'.cell? ⟨w.heap.size,7,none⟩=some (.string e.name)from fun w' g=>HK.out w' ((Sd (Sa w1)).trans g));rcases q1 with _|_
   ·refine Lf (by kernel_rfl) [.pointer (some ⟨w.heap.size,0,none⟩),.int .i64 e.kind,.bool true,.bool true,.pointer (some ⟨w.heap.size,7,none⟩),.string e.name,.bool false,.bool true,.bool true,undef,undef,undef,undef,.bool true,.bool true] _ (by kernel_rfl) (by kernel_rfl) rfl ?sH (by kernel_rfl) ?sT
    case sH=>
     simp only[List.toList_toArray,AI,Act.put,List.setIfInBounds_toArray,List.set_cons_zero,List.set_cons_succ];refine A4 (by kernel_rfl) (fun w' hg=>?_) ?_
     ·go_simp;exact Sa _
     refine A4 (by kernel_rfl) (fun w' hg=>?_) ?_
     ·obtain⟨g0,g1,g2⟩:=HK.out _ hg;go_simp;exact Sa _
     refine A4 (by kernel_rfl) (fun w' hg=>?_) ?_
     ·go_simp;exact Sa _
     refine A4 (by kernel_rfl) (fun w' hg=>?_) ?_
     ·go_simp;exact Sa _
     refine A4 (by kernel_rfl) (fun w' hg=>?_) ?_
     ·go_simp;exact Sa _
     refine A4 (by kernel_rfl) (fun w' hg=>?_) ?_
     ·obtain⟨g0,g1,g2⟩:=HK.out _ hg;go_simp;exact Sa _
     refine A4 (by kernel_rfl) (fun w' hg=>?_) ?_
     ·go_simp;(with_reducible refine(HNm.out _).mono ?_);rintro e3 wz ⟨rfl,gz⟩;exact⟨rfl,gz⟩
     refine A4 (by kernel_rfl) (fun w' hg=>?_) ?_
     ·go_simp;exact Sa _
     refine A4 (by kernel_rfl) (fun w' hg=>?_) ?_
     ·go_simp;exact Sa _
     refine AA (by kernel_rfl) (by kernel_rfl) ?_;refine AA (by kernel_rfl) (by kernel_rfl) ?_;refine AA (by kernel_rfl) (by kernel_rfl) ?_;refine AA (by kernel_rfl) (by kernel_rfl) ?_;refine A4 (by kernel_rfl) (fun w' hg=>?_) ?_
     ·go_simp;exact Sa _
     refine A4 (by kernel_rfl) (fun w' hg=>?_) ?_
     ·go_simp;exact Sa _
     exact AQ
    case sT=>
     intro wn hgn;simp only[List.toList_toArray,AI,Act.put,List.setIfInBounds_toArray,List.set_cons_zero,List.set_cons_succ];go_wp2_with fail;go_meet;exact⟨by rw[HV.out];rfl,hgn⟩
   refine Lf (by kernel_rfl) [.pointer (some ⟨w.heap.size,0,none⟩),.int .i64 e.kind,.bool true,.bool true,.pointer (some ⟨w.heap.size,7,none⟩),.string e.name,.bool true,.bool false,.bool false,.slice (some ⟨0,0,none⟩) 5 5,.pointer (some ⟨w.heap.size,7,none⟩),.string e.name,.bool q2,.bool q2,.bool q2] _ (by kernel_rfl) (by kernel_rfl) rfl ?sH (by kernel_rfl) ?sT
   case sH=>
    simp only[List.toList_toArray,AI,Act.put,List.setIfInBounds_toArray,List.set_cons_zero,List.set_cons_succ];refine A4 (by kernel_rfl) (fun w' hg=>?_) ?_
    ·go_simp;exact Sa _
    refine A4 (by kernel_rfl) (fun w' hg=>?_) ?_
    ·obtain⟨g0,g1,g2⟩:=HK.out _ hg;go_simp;exact Sa _
    refine A4 (by kernel_rfl) (fun w' hg=>?_) ?_
    ·go_simp;exact Sa _
    refine A4 (by kernel_rfl) (fun w' hg=>?_) ?_
    ·go_simp;exact Sa _
    refine A4 (by kernel_rfl) (fun w' hg=>?_) ?_
    ·go_simp;exact Sa _
    refine A4 (by kernel_rfl) (fun w' hg=>?_) ?_
    ·obtain⟨g0,g1,g2⟩:=HK.out _ hg;go_simp;exact Sa _
    refine A4 (by kernel_rfl) (fun w' hg=>?_) ?_
    ·go_simp;(with_reducible refine(HNm.out _).mono ?_);rintro e3 wz ⟨rfl,gz⟩;exact⟨rfl,gz⟩
    refine A4 (by kernel_rfl) (fun w' hg=>?_) ?_
    ·go_simp;exact Sa _
    refine A4 (by kernel_rfl) (fun w' hg=>?_) ?_
    ·go_simp;exact Sa _
    refine A4 (by kernel_rfl) (fun w' hg=>?_) ?_
    ·go_simp;exact Sa _
    refine A4 (by kernel_rfl) (fun w' hg=>?_) ?_
    ·go_simp;exact Sa _
    refine A4 (by kernel_rfl) (fun w' hg=>?_) ?_
    ·obtain⟨g0,g1,g2⟩:=HK.out _ hg;go_simp;exact Sa _
    refine A4 (by kernel_rfl) (fun w' hg=>?_) ?_
    ·obtain⟨g0,g1,g2⟩:=HK.out _ hg;go_simp;(with_reducible refine(HHas.out _ g0).mono ?_);rintro e3 wz ⟨rfl,rfl⟩;exact⟨rfl,Sa _⟩
    refine A4 (by kernel_rfl) (fun w' hg=>?_) ?_
    ·go_simp;exact Sa _
    refine A4 (by kernel_rfl) (fun w' hg=>?_) ?_
    ·go_simp;exact Sa _
    exact AQ
   case sT=>
    intro wn hgn;simp only[List.toList_toArray,AI,Act.put,List.setIfInBounds_toArray,List.set_cons_zero,List.set_cons_succ];go_wp2_with fail;go_meet;exact⟨by rw[HV.out];rfl,hgn⟩
  have t0:(e.kind==1)=false:=by simpa using hk
  have HV:=S9 (show Cn e=false by unfold Cn;rw[SM hk];rfl);clear hk;go_quiet (fail);go_wp2_with fail;go_meet;exact⟨by rw[HV.out],Sg (Sa _) _⟩
 case rest=>
  obtain⟨rfl,hgx⟩:=hcut;have HGX:=S9 hgx;clear hgx c0 c7;cases hbn:Cn e with
  |true=>
   have HF:=S9 (MA hbn);clear hbn;go_wp2_with fail;go_ret;exact⟨by rw[HF.out];rfl,HG.out.trans HGX.out⟩
  |false=>
   have HBN:=S9 hbn;clear hbn;have c8:wc.cell? ⟨w.heap.size,8,none⟩=some (.slice Am nm km):=(HB.out.grew HGX.out).cell 8;go_wp2_with fail;go_loopw [4,25] (fun _ i wr=>∃j:Nat,j≤nm∧i= .int .i64 (j:Nat)∧A5 wc wr∧∀j' m,j'<j→e.ms[j']? =some m→BU m=true) (fun _ i _=>nm-(intOf i).toNat)
   case atStart=>exact⟨0,by omega,rfl,Sa _,fun j' m h=>absurd h (by omega)⟩
   case round=>
    obtain⟨j,hj,rfl,hGr,hinv⟩:=hrel;have HGR:=S9 hGr;have HIV:=S9 hinv;clear hGr hinv;by_cases hlt:j<nm
    ·obtain⟨m,hm⟩:∃m,e.ms[j]? =some m:=⟨_,SF (by rw[←HNM.out];exact hlt)⟩;have hgw:=HG.out.trans (HGX.out.trans HGR.out);obtain⟨b,o,hbA,hrg⟩:=(HMS.out.keep (SD _) hgw.size hgw (fun _ _ h=>h)).at_ (j:=j) (cs:=Au m) (by rw[List.getElem?_map,hm];rfl);subst hbA;have hmem:m∈e.ms:=SN hm;have HRg:=S9 hrg;obtain⟨q,hq⟩:∃q,BU m=q:=⟨_,rfl⟩;have HVM:=S9 (fun w'=>L4 m (HX2.out m hmem).1.1 (HX2.out m hmem).2.1 w');rw[hq]at HVM;have HQ:=S9 hq;have HMM:=S9 hmem;have HM:=S9 hm;clear hrg hmem hm hq hgw;rcases q with _|_
     ·have HF:=S9 (On HMM.out HQ.out);go_wp2_with(first|((with_reducible refine AG 68 (.tmp 27) rfl ?_);refine wpList_load_mid rfl 68 (.tmp 27) rfl b (o+j*3) rfl (Au m) _ HRg.out Tryz.underlying68 rfl Ez ?_)|((with_reducible refine AF 68 (.tmp 4) (.tmp 28) rfl ?_);refine Ar 68 (.tmp 4) (.tmp 28) (wr.heap.size) (Au m) Qb 68 Ez rfl (DP m) rfl rfl rfl rfl (Sc wr 68 _) ?_;intro w3 hb3 k3 d3;have g3:A5 wr w3:=Sb ((Sa wr).alloc _) k3 (fun i hi e=>by omega))|((with_reducible refine AG 68 (.tmp 4) rfl ?_);refine BR 68 Tryz.underlying68 rfl (.tmp 4) (wr.heap.size) (Au m) 68 Ez rfl rfl rfl hb3 ?_)|(go_at_call 95;(with_reducible refine(HVM.out _).mono ?_);rintro e4 w4 ⟨rfl,k4⟩));go_ret;exact⟨by rw[HF.out];rfl,HG.out.trans (HGX.out.trans (HGR.out.trans (g3.trans k4)))⟩
     go_wp2_with(first|((with_reducible refine AG 68 (.tmp 27) rfl ?_);refine wpList_load_mid rfl 68 (.tmp 27) rfl b (o+j*3) rfl (Au m) _ HRg.out Tryz.underlying68 rfl Ez ?_)|((with_reducible refine AF 68 (.tmp 4) (.tmp 28) rfl ?_);refine Ar 68 (.tmp 4) (.tmp 28) (wr.heap.size) (Au m) Qb 68 Ez rfl (DP m) rfl rfl rfl rfl (Sc wr 68 _) ?_;intro w3 hb3 k3 d3;have g3:A5 wr w3:=Sb ((Sa wr).alloc _) k3 (fun i hi e=>by omega))|((with_reducible refine AG 68 (.tmp 4) rfl ?_);refine BR 68 Tryz.underlying68 rfl (.tmp 4) (wr.heap.size) (Au m) 68 Ez rfl rfl rfl hb3 ?_)|(go_at_call 95;(with_reducible refine(HVM.out _).mono ?_);rintro e4 w4 ⟨rfl,k4⟩));go_roundw
     case rel=>exact⟨j+1,by omega,by go_num,HGR.out.trans (g3.trans k4),fun j' m' h1 h2=>by
      by_cases hjj:j'=j
      ·subst hjj;rw[HM.out]at h2;obtain rfl:=SI h2;exact HQ.out
      exact HIV.out j' m' (by omega) h2⟩
     case measure=>simp[intOf];omega
    obtain rfl:j=nm:=by omega
    have HALL:=S9 (show ∀m∈e.ms,BU m=true from fun m hm=>by
     obtain⟨j',hj'⟩:=List.getElem?_of_mem hm;exact HIV.out j' m (by have:=(SK.1 hj').1;have:=HNM.out;omega) hj')
    clear c8;have c9:wr.cell? ⟨w.heap.size,9,none⟩=some (.slice Ab nb kb):=(HB.out.grew (HGX.out.trans HGR.out)).cell 9;generalize wr=wv at*;go_wp2_with fail;go_loopw [5,6,36] (fun _ _ i wr=>∃k:Nat,k≤nb∧i= .int .i64 (k:Nat)∧A5 wv wr∧∀k',k'<k→O7 e.bys k'=true) (fun _ _ i _=>nb-(intOf i).toNat)
    case atStart=>exact⟨0,by omega,rfl,Sa _,fun k' h=>absurd h (by omega)⟩
    case round=>
     obtain⟨k,hk,rfl,hGx2,hinv2⟩:=hrel;have HGY:=S9 hGx2;have HJV:=S9 hinv2;have hgw:A5 w wr:=HG.out.trans (HGX.out.trans (HGR.out.trans hGx2));have HGW:=S9 hgw;clear hGx2 hinv2 hgw;by_cases hlt2:k<nb
     ·obtain⟨s,hs⟩:∃s,e.bys[k]? =some s:=⟨_,SF (by rw[←HNB.out];exact hlt2)⟩;have hrd:∀w',A5 w w'→∃b o,Ab=some ⟨b,o,none⟩∧∀i r,e.bys[i]? =some r→w'.cell? ⟨b,o+i,none⟩=some (.string r):=fun w' g=>by
       obtain⟨A',c',hv,hc',hx'⟩:=HBY.out.keep (SD _) g.size g (fun _ _ h=>h);injection hv with e1 e2 e3;obtain⟨b,o,hA,hbb,hcell⟩:=hx' (by rw[←e2];omega);refine⟨b,o,e1.trans hA,fun i r hi=>?_⟩;have:=hcell i [.string r] (by rw[List.getElem?_map,hi];rfl) 0 _ rfl;rw[Nat.mul_one]at this;exact this
      obtain⟨b,o,rfl,hcells⟩:=hrd wr HGW.out;have hcell:∀w',A5 wr w'→∀i r,e.bys[i]? =some r→w'.cell? ⟨b,o+i,none⟩=some (.string r):=fun w' g=>by
       obtain⟨b',o',he,h⟩:=hrd w' (HGW.out.trans g);simp only[SW,Addr.mk.injEq,and_true]at he;obtain⟨rfl,rfl⟩:=he;exact h
      have HC:=S9 hcell;have hgb:A5 w1 wr:=HGX.out.trans (HGR.out.trans HGY.out);have HGB:=S9 hgb;have c9:wr.cell? ⟨w.heap.size,9,none⟩=some (.slice (some ⟨b,o,none⟩) nb kb):=(HB.out.grew hgb).cell 9;have cs:wr.cell? ⟨b,o+k,none⟩=some (.string s):=hcells k s hs;obtain⟨q,hq⟩:∃q,CQ s=q:=⟨_,rfl⟩;have HNm:=S9 (fun w'=>Iw s (HX3.out s (SN hs)).1 w');rw[hq]at HNm;have HS:=S9 hs;have HQ:=S9 hq;have HLT2:=S9 (show k<e.bys.length by rw[←HNB.out];exact hlt2);clear hs hq hrd hcells hcell hgb;have hnext:O7 e.bys k=true→∀k',k'<k+1→O7 e.bys k'=true:=fun h k' hk'=>by
       by_cases e:k'=k
       ·subst e;exact h
       exact HJV.out k' (by omega)
      have HNX:=S9 hnext;clear hnext;rcases q with _|_
      ·have HF:=S9 (IF HLT2.out (show O7 e.bys k=false by
        cases k with
        |zero=>rw[LT HS.out,HQ.out]
        |succ k'=>
         obtain⟨r,hr⟩:∃r,e.bys[k']? =some r:=⟨_,SF (by have:=HLT2.out;omega)⟩;rw[LC HS.out hr,HQ.out];rfl))
       go_wp2_with(first|(go_at_call 93;(with_reducible refine(HNm.out _).mono ?_);rintro e4 w4 ⟨rfl,k4⟩));go_ret;exact⟨by rw[HF.out];rfl,HGW.out.trans k4⟩
      rcases k with _|k
      ·have HT:=S9 (HNX.out (by rw[LT HS.out,HQ.out]));have cs0:wr.cell? ⟨b,o,none⟩=some (.string s):=cs;go_wp2_with(first|(go_at_call 93;(with_reducible refine(HNm.out _).mono ?_);rintro e4 w4 ⟨rfl,k4⟩));go_roundw
       case rel=>exact⟨0+1,by omega,by go_num,HGY.out.trans k4,HT.out⟩
       case measure=>simp[intOf];omega
      obtain⟨r,hr⟩:∃r,e.bys[k]? =some r:=⟨_,SF (by have:=HLT2.out;omega)⟩;have hby2:=LC HS.out hr;rw[HQ.out]at hby2;have HR:=S9 hr;obtain⟨x1,hx1⟩:∃x1,Op.bytesLess s.toList r.toList=x1:=⟨_,rfl⟩;obtain⟨x2,hx2⟩:∃x2,(s.toList==r.toList)=x2:=⟨_,rfl⟩;have hle:RY s r=(x1||x2):=by unfold RY;rw[hx1,hx2]
      rw[hle]at hby2;have HBY2:=S9 hby2;clear hr hby2 hle;rcases x1 with _|_
      ·rcases x2 with _|_
       ·have HT:=S9 (HNX.out HBY2.out);go_wp2_with(first|(go_at_call 93;(with_reducible refine(HNm.out _).mono ?_);rintro e4 w4 ⟨rfl,k4⟩;have d9:w4.cell? ⟨w.heap.size,9,none⟩=some (.slice (some ⟨b,o,none⟩) nb kb):=((HB.out.grew HGB.out).grew k4).cell 9;have dr:=HC.out w4 k4 k r HR.out));go_wp2_with fail;go_roundw
        case rel=>exact⟨k+1+1,by omega,by go_num,HGY.out.trans k4,HT.out⟩
        case measure=>simp[intOf];omega
       have HF:=S9 (IF HLT2.out HBY2.out);go_wp2_with(first|(go_at_call 93;(with_reducible refine(HNm.out _).mono ?_);rintro e4 w4 ⟨rfl,k4⟩;have d9:w4.cell? ⟨w.heap.size,9,none⟩=some (.slice (some ⟨b,o,none⟩) nb kb):=((HB.out.grew HGB.out).grew k4).cell 9;have dr:=HC.out w4 k4 k r HR.out));go_ret;exact⟨by rw[HF.out];rfl,HGW.out.trans k4⟩
      have HF:=S9 (IF HLT2.out HBY2.out);go_wp2_with(first|(go_at_call 93;(with_reducible refine(HNm.out _).mono ?_);rintro e4 w4 ⟨rfl,k4⟩;have d9:w4.cell? ⟨w.heap.size,9,none⟩=some (.slice (some ⟨b,o,none⟩) nb kb):=((HB.out.grew HGB.out).grew k4).cell 9;have dr:=HC.out w4 k4 k r HR.out));go_ret;exact⟨by rw[HF.out];rfl,HGW.out.trans k4⟩
     obtain rfl:k=nb:=by omega
     have HF:=S9 (Ow HBN.out HALL.out (fun j hj=>HJV.out j (by have:=HNB.out;omega)));go_wp2_with fail;go_ret;exact⟨by rw[HF.out];rfl,HGW.out⟩
def Cp (e:Ex):Bool:=decide (e.window=0∧e.offset=0∧e.name.size=0∧e.ms.length=0)
def Du (e:Ex):Bool:=decide (e.num=0∧e.den=0)
theorem Dq (e:Ex) (n nm nb:Nat) (hnm:nm=e.ms.length) (hnn:n=e.kids.length) (hnb:nb=e.bys.length):BN e=
  (if e.kind=0 then decide (e.fn=0∧n=0∧Cp e=true∧e.k=0∧nb=0∧B2 e.num e.den=true)
  else if e.kind=1 then decide (0≤e.fn∧e.fn≤7∧n=0∧Du e=true∧nb=0)
  else if e.kind=2 then decide (0≤e.fn∧e.fn≤4∧n=1∧Du e=true∧Cp e=true)
  else if e.kind=3 then decide (0≤e.fn∧e.fn≤3∧n=2∧Du e=true∧Cp e=true∧e.k=0∧nb=0)
  else false):=by
 subst hnm hnn hnb;unfold BN Cp Du;rw[Bool.eq_iff_iff]
 (repeat' split)<;>simp[*]<;>(try omega)<;>grind
theorem M3 {s:ByteArray} (h:s.size=0):s.toList.isEmpty=true:=by
 rw[ByteArray.toList_eq,List.isEmpty_iff];exact List.eq_nil_of_length_eq_zero h
theorem Nt {s:ByteArray} (h:¬s.size=0):s.toList.isEmpty=false:=by
 rw[ByteArray.toList_eq,List.isEmpty_eq_false_iff];intro h0;exact h (congrArg List.length h0)
theorem Lp (e:Ex) (Am Ab A:Option Addr) (nm km nb kb n c:Nat) (hnm:nm=e.ms.length) (hnb:nb=e.bys.length) (hnn:n=e.kids.length) (w:World) (h64:Ea e):Calls Tryz.prog 63 #[.agg (AE e (.slice Am nm km) (.slice Ab nb kb) (.slice A n c)).toArray] w fun e' w'=>e'= .returned (.bool (BN e))∧A5 w w':=by
 have hb:=Sc w 29 (AE e (.slice Am nm km) (.slice Ab nb kb) (.slice A n c)).toArray;have hG:=(Sa w).alloc (.cells (AE e (.slice Am nm km) (.slice Ab nb kb) (.slice A n c)).toArray 29);have HFV:=S9 (fun w'=>Im e.num e.den w' h64.2.2.2.2.2.1 h64.2.2.2.2.2.2);have HL:=S9 (SC hnm (SC hnn hnb));clear h64 hnm hnn hnb;go_enter Tryz.func63,Tryz.ntmps63;go_upto_region 1 with fail;generalize w.alloc (.cells (AE e (.slice Am nm km) (.slice Ab nb kb) (.slice A n c)).toArray 29)=w1 at*;have c0:w1.cell? ⟨w.heap.size,0,none⟩=some (.int .i64 e.kind):=hb.cell 0;have c1:w1.cell? ⟨w.heap.size,1,none⟩=some (.int .i64 e.fn):=hb.cell 1;have c2:w1.cell? ⟨w.heap.size,2,none⟩=some (.int .i64 e.window):=hb.cell 2;have c3:w1.cell? ⟨w.heap.size,3,none⟩=some (.int .i64 e.offset):=hb.cell 3;have c4:w1.cell? ⟨w.heap.size,4,none⟩=some (.int .i64 e.k):=hb.cell 4;have c7:w1.cell? ⟨w.heap.size,7,none⟩=some (.string e.name):=hb.cell 7;have c8:w1.cell? ⟨w.heap.size,8,none⟩=some (.slice Am nm km):=hb.cell 8;have c9:w1.cell? ⟨w.heap.size,9,none⟩=some (.slice Ab nb kb):=hb.cell 9;have c10:w1.cell? ⟨w.heap.size,10,none⟩=some (.slice A n c):=hb.cell 10;have HG:=S9 hG;have HB:=S9 hb;clear hG hb;go_cut [3] (fun s3 wx=>s3= .bool (Cp e)∧w1=wx)
 case first=>
  refine if h0:e.window=0 then if h1:e.offset=0 then if h2:e.name.size=0 then if h3:nm=0 then ?_ else ?_ else ?_ else ?_ else ?_
  all_goals
   try first|have f0:(e.window==0)=true:=SG.2 h0|have f0:(e.window==0)=false:=SA.2 h0
   try first|have f1:(e.offset==0)=true:=SG.2 h1|have f1:(e.offset==0)=false:=SA.2 h1
   try first|have f2:=M3 h2|have f2:=Nt h2
   try first|have f3:((nm:Int)==0)=true:=by rw[SG];omega|have f3:((nm:Int)==0)=false:=by rw[SA];omega
   first|have HV:=S9 (show Cp e=true by obtain⟨hnm,hnn,hnb⟩:=HL.out;unfold Cp;rw[←hnm];exact decide_eq_true (by omega))|have HV:=S9 (show Cp e=false by obtain⟨hnm,hnn,hnb⟩:=HL.out;unfold Cp;rw[←hnm];exact SM (by omega))
   clear h0
   try clear h1
   try clear h2
   try clear h3
   go_wp2_with fail;go_meet;exact⟨by(try rw[HV.out]);(try rw[f3]),rfl⟩
 case rest=>
  obtain⟨rfl,rfl⟩:=hcut;have c5:w1.rangeAt w.heap.size 5 (AN e.num e.den):=HB.out.rangeN 5 (AN e.num e.den) rfl;have hq:=fun w=>(show(binOp .eql 24 (.agg (AN e.num e.den).toArray) (.agg #[.int .i64 0,.int .i64 0])).run Tryz.prog w= .ok (.bool (Du e)) w from Eo e.num e.den 0 0 (Du e) rfl w)
  go_upto_region 3 with(first|((with_reducible refine AG 24 (.tmp 24) rfl ?_);refine wpList_load_mid rfl 24 (.tmp 24) rfl w.heap.size 5 rfl (AN e.num e.den) _ c5 Tryz.underlying24 rfl Ad ?_));have c5':w1.cell? ⟨w.heap.size,5,none⟩=some (.int .i64 e.num):=HB.out.cell 5;have c6':w1.cell? ⟨w.heap.size,6,none⟩=some (.int .i64 e.den):=HB.out.cell 6;clear c5 hq;refine if hk0:e.kind=0 then if hf:e.fn=0 then if hn0:n=0 then if hs:Cp e=true then if hq:e.k=0 then if hb:nb=0 then if hv:B2 e.num e.den=true then ?_ else ?_ else ?_ else ?_ else ?_ else ?_ else ?_ else if hk1:e.kind=1 then if hg:0≤e.fn then if hu7:e.fn≤7 then if hn0:n=0 then if hm:Du e=true then if hb:nb=0 then ?_ else ?_ else ?_ else ?_ else ?_ else ?_ else if hk2:e.kind=2 then if hg:0≤e.fn then if hu4:e.fn≤4 then if hn1:n=1 then if hm:Du e=true then if hs:Cp e=true then ?_ else ?_ else ?_ else ?_ else ?_ else ?_ else if hk3:e.kind=3 then if hg:0≤e.fn then if hu3:e.fn≤3 then if hn2:n=2 then if hm:Du e=true then if hs:Cp e=true then if hq:e.k=0 then if hb:nb=0 then ?_ else ?_ else ?_ else ?_ else ?_ else ?_ else ?_ else ?_ else ?_
  all_goals
   try first|have qk0:(e.kind==0)=true:=SG.2 hk0|have qk0:(e.kind==0)=false:=SA.2 hk0
   try first|have qk1:(e.kind==1)=true:=SG.2 hk1|have qk1:(e.kind==1)=false:=SA.2 hk1
   try first|have qk2:(e.kind==2)=true:=SG.2 hk2|have qk2:(e.kind==2)=false:=SA.2 hk2
   try first|have qk3:(e.kind==3)=true:=SG.2 hk3|have qk3:(e.kind==3)=false:=SA.2 hk3
   try first|have qf:(e.fn==0)=true:=SG.2 hf|have qf:(e.fn==0)=false:=SA.2 hf
   try first|have qg:decide (0≤e.fn)=true:=decide_eq_true hg|have qg:decide (0≤e.fn)=false:=SM hg
   try first|have qu7:decide (e.fn≤7)=true:=decide_eq_true hu7|have qu7:decide (e.fn≤7)=false:=SM hu7
   try first|have qu4:decide (e.fn≤4)=true:=decide_eq_true hu4|have qu4:decide (e.fn≤4)=false:=SM hu4
   try first|have qu3:decide (e.fn≤3)=true:=decide_eq_true hu3|have qu3:decide (e.fn≤3)=false:=SM hu3
   try first|have qn0:((n:Int)==0)=true:=by rw[SG];omega|have qn0:((n:Int)==0)=false:=by rw[SA];omega
   try first|have qn1:((n:Int)==1)=true:=by rw[SG];omega|have qn1:((n:Int)==1)=false:=by rw[SA];omega
   try first|have qn2:((n:Int)==2)=true:=by rw[SG];omega|have qn2:((n:Int)==2)=false:=by rw[SA];omega
   try first|have qs:Cp e=true:=hs|have qs:Cp e=false:=by simpa using hs
   try first|have qm:Du e=true:=hm|have qm:Du e=false:=by simpa using hm
   try first|have qv:B2 e.num e.den=true:=hv|have qv:B2 e.num e.den=false:=by simpa using hv
   try first|have qq:(e.k==0)=true:=SG.2 hq|have qq:(e.k==0)=false:=SA.2 hq
   try first|have qb:((nb:Int)==0)=true:=by rw[SG];omega|have qb:((nb:Int)==0)=false:=by rw[SA];omega
   first|have HV:=S9 (show BN e=false by obtain⟨hnm,hnn,hnb⟩:=HL.out;clear HG HB c0 c1 c2 c3 c4 c7 c8 c9 c10 HFV c5' c6';rw[Dq e n nm nb hnm hnn hnb];first|((repeat' split)<;>first|omega|rfl|exact SM (by omega)|exact SM (by grind))|fail)|have HV:=S9 (show BN e=true by obtain⟨hnm,hnn,hnb⟩:=HL.out;clear HG HB c0 c1 c2 c3 c4 c7 c8 c9 c10 HFV c5' c6';rw[Dq e n nm nb hnm hnn hnb];first|((repeat' split)<;>first|omega|exact decide_eq_true (by grind))|fail)
   try clear hk0
   try clear hk1
   try clear hk2
   try clear hk3
   try clear hf
   try clear hg
   try clear hu7
   try clear hu4
   try clear hu3
   try clear hn0
   try clear hn1
   try clear hn2
   try clear hs
   try clear hm
   try clear hv
   try clear hq
   try clear hb
   go_wp2_with(first|(go_at_call 92;refine(HFV.out _).mono ?_;rintro e3 w3 ⟨rfl,k3⟩));go_ret
   first|exact⟨by(try rw[HV.out]);rfl,HG.out⟩|exact⟨by(try rw[HV.out]);rfl,HG.out.trans k3⟩
end Go.Proofs.YthpflelgbadkcaaGreatDoor
