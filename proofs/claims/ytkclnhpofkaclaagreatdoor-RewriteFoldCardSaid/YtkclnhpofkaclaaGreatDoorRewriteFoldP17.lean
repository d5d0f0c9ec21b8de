/- What the card of the law stands on: Named, Shaped, Within. -/
import Derived.Test.YtkclnhpofkaclaaGreatDoorRewriteFoldP04
import Derived.Test.YtkclnhpofkaclaaGreatDoorRewriteFoldP01
import Derived.Test.YtkclnhpofkaclaaGreatDoorRewriteFoldP16
import Derived.Test.YtkclnhpofkaclaaGreatDoorRewriteFoldP03
import Derived.Laws.Cover1
import Derived.Deep.DeepCutAuto
import Derived.Test.YtkclnhpofkaclaaGreatDoorRewriteFoldP10
import Derived.Test.YtkclnhpofkaclaaGreatDoorRewriteFoldP13
import Derived.Test.YtkclnhpofkaclaaGreatDoorRewriteFoldP11
import Derived.Test.YtkclnhpofkaclaaGreatDoorRewriteFoldP05
set_option maxRecDepth 100000
set_option maxHeartbeats 12800000
set_option linter.unusedVariables false
set_option linter.unusedSimpArgs false
namespace Go.Proofs.YtkclnhpofkaclaaGreatDoor
open Go.RowKit Pl
def Cy (w:World):Prop:=0<w.heap.size∧∀j s,C0[j]? =some s→w.cell? ⟨0,j,none⟩=some (.string s)
theorem Cy.grew {w w':World} (h:Cy w) (g:A5 w w'):Cy w':=⟨Ub h.1 g.size,fun j s hj=>(World.cell?_of_block (a:=⟨0,j,none⟩) (g.block _ h.1 (fun e=>e))).trans (h.2 j s hj)⟩
theorem Cy.rd {w:World} (h:Cy w):Bs w w.heap.size 1 (.slice (some ⟨0,0,none⟩) 5 5) (C0.map fun s=>[Value.string s]):=by
 refine⟨_,5,rfl,by decide,fun _=>⟨_,0,rfl,h.1,fun j cs hj k u hk=>?_⟩⟩;rw[Nat.zero_add,Nat.mul_one];rw[List.getElem?_map]at hj;obtain⟨x,hx,rfl⟩:=Option.map_eq_some_iff.1 hj;obtain⟨rfl,rfl⟩:k=0∧Value.string x=u:=by
  cases k with
  |zero=>exact⟨rfl,by simpa using hk⟩
  |succ k=>simp at hk
 exact h.2 j x hx
theorem O6 (e:Ex) (Am Ab A:Option Addr) (nm km nb kb n c:Nat) (hnm:nm=e.ms.length) (hnb:nb=e.bys.length) (w:World) (hms:Bs w w.heap.size 3 (.slice Am nm km) (e.ms.map AL)) (hby:Bs w w.heap.size 1 (.slice Ab nb kb) (e.bys.map fun s=>[Value.string s])) (hx:Qt e) (hw:Cy w):Calls Tryz.prog 53 #[.agg (A8 e (.slice Am nm km) (.slice Ab nb kb) (.slice A n c)).toArray] w fun e' w'=>e'= .returned (.bool (C3 e))∧A5 w w':=by
 obtain⟨hx1,hx2,hx3,hx4,hx5⟩:=hx;have hb:=Ux w 29 (A8 e (.slice Am nm km) (.slice Ab nb kb) (.slice A n c)).toArray;have hG:=(Uv w).alloc (.cells (A8 e (.slice Am nm km) (.slice Ab nb kb) (.slice A n c)).toArray 29);have HT:=UX hw;have HNM:=UX hnm;have HNB:=UX hnb;have hnml:nm≤1000:=by omega
 have hnbl:nb≤1000:=by omega
 have HX1:=UX hx1;have HX2:=UX hx2;have HX3:=UX hx3;have HMS:=UX hms;have HBY:=UX hby;clear hnm hnb hx1 hx2 hx3 hx4 hx5 hms hby hw;go_enter Tryz.func53,Tryz.ntmps53;go_upto_region 1 with fail;generalize w.alloc (.cells (A8 e (.slice Am nm km) (.slice Ab nb kb) (.slice A n c)).toArray 29)=w1 at*;have c0:w1.cell? ⟨w.heap.size,0,none⟩=some (.int .i64 e.kind):=hb.cell 0;have c7:w1.cell? ⟨w.heap.size,7,none⟩=some (.string e.name):=hb.cell 7;have HG:=UX hG;have HB:=UX hb;clear hG hb;go_cut [21] (fun s wx=>s= .bool (Br e)∧A5 w1 wx)
 case first=>
  by_cases hk:e.kind=1
  ·have t0:(e.kind==1)=true:=by simpa using hk
   obtain⟨q1,hq1⟩:∃q,CI e.name=q:=⟨_,rfl⟩;obtain⟨q2,hq2⟩:∃q,H5 C0 e.name=q:=⟨_,rfl⟩;have HV:=UX (show Br e=(!q1||q2) by unfold Br;rw[hq1,hq2,decide_eq_true hk];rfl);have HNm:=UX (show ∀w',Calls Tryz.prog 87 #[.string e.name] w' fun e' w''=>e'= .returned (.bool q1)∧A5 w' w'' from fun w'=>by have:=IF e.name HX1.out.1 w';rwa[hq1]at this);have HHas:=UX (show ∀w',A5 w1 w'→Calls Tryz.prog 88 #[.slice (some ⟨0,0,none⟩) 5 5,.string e.name] w' fun e' w''=>e'= .returned (.bool q2)∧w''=w' from fun w' g=>by have:=Ka _ C0 e.name w' ((HT.out.grew (HG.out.trans g)).rd) (by decide);rwa[hq2]at this);have HK:=UX (show ∀w',A5 w1 w'→A5 w1 w'∧w'.cell? ⟨w.heap.size,0,none⟩=some (.int .i64 e.kind)∧w'.cell? ⟨w.heap.size,7,none⟩=some (.string e.name)from fun w' g=>⟨g,(HB.out.grew g).cell 0,(HB.out.grew g).cell 7⟩);have g0:=Uv w1;clear hk hq1 hq2;have HK:=UX (show ∀w',A5 w1.drew w'→A5 w1 w'∧w'.cell? ⟨w.heap.size,0,none⟩=some (.int .i64 e.kind)∧w'.cell? ⟨w.heap.size,7,none⟩=some (.string e.name)from fun w' g=>HK.out w' ((Uy (Uv w1)).trans g));rcases q1 with _|_
   ·refine LO (by kernel_rfl) [.pointer (some ⟨w.heap.size,0,none⟩),.int .i64 e.kind,.bool true,.bool true,.pointer (some ⟨w.heap.size,7,none⟩),.string e.name,.bool false,.bool true,.bool true,undef,undef,undef,undef,.bool true,.bool true] _ (by kernel_rfl) (by kernel_rfl) rfl ?sH (by kernel_rfl) ?sT
    case sH=>
     simp only[List.toList_toArray,BQ,Act.put,List.setIfInBounds_toArray,List.set_cons_zero,List.set_cons_succ];refine hP (hR (fun w' hg=>?_) ?_)
     ·obtain⟨g0,g1,g2⟩:=HK.out _ hg;go_simp;exact Uv _
     refine hP (hP (hP (hR (fun w' hg=>?_) ?_)))
     ·obtain⟨g0,g1,g2⟩:=HK.out _ hg;go_simp;exact Uv _
     refine hR (fun w' hg=>?_) ?_
     ·go_simp;(with_reducible refine(HNm.out _).mono ?_);rintro e3 wz ⟨rfl,gz⟩;exact⟨rfl,gz⟩
     exact hP (hP (hS (hS (hS (hS (hP (hP AF)))))))
    case sT=>
     intro wn hgn;simp only[List.toList_toArray,BQ,Act.put,List.setIfInBounds_toArray,List.set_cons_zero,List.set_cons_succ];go_wp2_with fail;go_meet;exact⟨by rw[HV.out];rfl,hgn⟩
   refine LO (by kernel_rfl) [.pointer (some ⟨w.heap.size,0,none⟩),.int .i64 e.kind,.bool true,.bool true,.pointer (some ⟨w.heap.size,7,none⟩),.string e.name,.bool true,.bool false,.bool false,.slice (some ⟨0,0,none⟩) 5 5,.pointer (some ⟨w.heap.size,7,none⟩),.string e.name,.bool q2,.bool q2,.bool q2] _ (by kernel_rfl) (by kernel_rfl) rfl ?sH (by kernel_rfl) ?sT
   case sH=>
    simp only[List.toList_toArray,BQ,Act.put,List.setIfInBounds_toArray,List.set_cons_zero,List.set_cons_succ];refine hP (hR (fun w' hg=>?_) ?_)
    ·obtain⟨g0,g1,g2⟩:=HK.out _ hg;go_simp;exact Uv _
    refine hP (hP (hP (hR (fun w' hg=>?_) ?_)))
    ·obtain⟨g0,g1,g2⟩:=HK.out _ hg;go_simp;exact Uv _
    refine hR (fun w' hg=>?_) ?_
    ·go_simp;(with_reducible refine(HNm.out _).mono ?_);rintro e3 wz ⟨rfl,gz⟩;exact⟨rfl,gz⟩
    refine hP (hP (hP (hP (hR (fun w' hg=>?_) ?_))))
    ·obtain⟨g0,g1,g2⟩:=HK.out _ hg;go_simp;exact Uv _
    refine hR (fun w' hg=>?_) ?_
    ·obtain⟨g0,g1,g2⟩:=HK.out _ hg;go_simp;(with_reducible refine(HHas.out _ g0).mono ?_);rintro e3 wz ⟨rfl,rfl⟩;exact⟨rfl,Uv _⟩
    exact hP (hP AF)
   case sT=>
    intro wn hgn;simp only[List.toList_toArray,BQ,Act.put,List.setIfInBounds_toArray,List.set_cons_zero,List.set_cons_succ];go_wp2_with fail;go_meet;exact⟨by rw[HV.out];rfl,hgn⟩
  have t0:(e.kind==1)=false:=by simpa using hk
  have HV:=UX (show Br e=false by unfold Br;rw[Uj hk];rfl);clear hk;go_quiet (fail);go_wp2_with fail;go_meet;exact⟨by rw[HV.out],V1 (Uv _) _⟩
 case rest=>
  obtain⟨rfl,hgx⟩:=hcut;have HGX:=UX hgx;clear hgx c0 c7;cases hbn:Br e with
  |true=>
   have HF:=UX (Iq hbn);clear hbn;go_wp2_with fail;go_ret;exact⟨by rw[HF.out];rfl,HG.out.trans HGX.out⟩
  |false=>
   have HBN:=UX hbn;clear hbn;have c8:wc.cell? ⟨w.heap.size,8,none⟩=some (.slice Am nm km):=(HB.out.grew HGX.out).cell 8;go_wp2_with fail;go_loopw [4,25] (fun _ i wr=>∃j:Nat,j≤nm∧i= .int .i64 (j:Nat)∧A5 wc wr∧∀j' m,j'<j→e.ms[j']? =some m→BA m=true) (fun _ i _=>nm-(intOf i).toNat)
   case atStart=>exact⟨0,by omega,rfl,Uv _,fun j' m h=>absurd h (by omega)⟩
   case round=>
    obtain⟨j,hj,rfl,hGr,hinv⟩:=hrel;have HGR:=UX hGr;have HIV:=UX hinv;clear hGr hinv;by_cases hlt:j<nm
    ·obtain⟨m,hm⟩:∃m,e.ms[j]? =some m:=⟨_,Uc (by rw[←HNM.out];exact hlt)⟩;have hgw:=HG.out.trans (HGX.out.trans HGR.out);obtain⟨b,o,hbA,hrg⟩:=(HMS.out.keep (Ua _) hgw.size hgw (fun _ _ h=>h)).at_ (j:=j) (cs:=AL m) (by rw[List.getElem?_map,hm];rfl);subst hbA;have hmem:m∈e.ms:=Uk hm;have HRg:=UX hrg;obtain⟨q,hq⟩:∃q,BA m=q:=⟨_,rfl⟩;have HVM:=UX (fun w'=>L0 m (HX2.out m hmem).1.1 (HX2.out m hmem).2.1 w');rw[hq]at HVM;have HQ:=UX hq;have HMM:=UX hmem;have HM:=UX hm;clear hrg hmem hm hq hgw;rcases q with _|_
     ·have HF:=UX (L3 HMM.out HQ.out);go_wp2_with(first|(refine lM (.tmp 27) HRg.out rM ?_)|(refine sN (.tmp 4) (.tmp 28) (AL m) (Ux wr 59 _) rM ?_ (h1:=(FE m)) (us:=RQ);intro w3 hb3 k3 d3;have g3:A5 wr w3:=Uw ((Uv wr).alloc _) k3 (fun i hi e=>by omega))|(refine lN (.tmp 4) hb3 rM ?_)|(go_at_call 89;(with_reducible refine(HVM.out _).mono ?_);rintro e4 w4 ⟨rfl,k4⟩)|fail);go_ret;exact⟨by rw[HF.out];rfl,HG.out.trans (HGX.out.trans (HGR.out.trans (g3.trans k4)))⟩
     go_wp2_with(first|(refine lM (.tmp 27) HRg.out rM ?_)|(refine sN (.tmp 4) (.tmp 28) (AL m) (Ux wr 59 _) rM ?_ (h1:=(FE m)) (us:=RQ);intro w3 hb3 k3 d3;have g3:A5 wr w3:=Uw ((Uv wr).alloc _) k3 (fun i hi e=>by omega))|(refine lN (.tmp 4) hb3 rM ?_)|(go_at_call 89;(with_reducible refine(HVM.out _).mono ?_);rintro e4 w4 ⟨rfl,k4⟩)|fail);go_roundw
     case rel=>exact⟨j+1,by omega,by go_num,HGR.out.trans (g3.trans k4),fun j' m' h1 h2=>by
      by_cases hjj:j'=j
      ·subst hjj;rw[HM.out]at h2;obtain rfl:=Uf h2;exact HQ.out
      exact HIV.out j' m' (by omega) h2⟩
     case measure=>simp[intOf];omega
    obtain rfl:j=nm:=by omega
    have HALL:=UX (show ∀m∈e.ms,BA m=true from fun m hm=>by
     obtain⟨j',hj'⟩:=List.getElem?_of_mem hm;exact HIV.out j' m (by have:=(Uh.1 hj').1;have:=HNM.out;omega) hj')
    clear c8;have c9:wr.cell? ⟨w.heap.size,9,none⟩=some (.slice Ab nb kb):=(HB.out.grew (HGX.out.trans HGR.out)).cell 9;generalize wr=wv at*;go_wp2_with fail;go_loopw [5,6,36] (fun _ _ i wr=>∃k:Nat,k≤nb∧i= .int .i64 (k:Nat)∧A5 wv wr∧∀k',k'<k→MI e.bys k'=true) (fun _ _ i _=>nb-(intOf i).toNat)
    case atStart=>exact⟨0,by omega,rfl,Uv _,fun k' h=>absurd h (by omega)⟩
    case round=>
     obtain⟨k,hk,rfl,hGx2,hinv2⟩:=hrel;have HGY:=UX hGx2;have HJV:=UX hinv2;have hgw:A5 w wr:=HG.out.trans (HGX.out.trans (HGR.out.trans hGx2));have HGW:=UX hgw;clear hGx2 hinv2 hgw;by_cases hlt2:k<nb
     ·obtain⟨s,hs⟩:∃s,e.bys[k]? =some s:=⟨_,Uc (by rw[←HNB.out];exact hlt2)⟩;have hrd:∀w',A5 w w'→∃b o,Ab=some ⟨b,o,none⟩∧∀i r,e.bys[i]? =some r→w'.cell? ⟨b,o+i,none⟩=some (.string r):=fun w' g=>by
       obtain⟨A',c',hv,hc',hx'⟩:=HBY.out.keep (Ua _) g.size g (fun _ _ h=>h);injection hv with e1 e2 e3;obtain⟨b,o,hA,hbb,hcell⟩:=hx' (by rw[←e2];omega);refine⟨b,o,e1.trans hA,fun i r hi=>?_⟩;have:=hcell i [.string r] (by rw[List.getElem?_map,hi];rfl) 0 _ rfl;rw[Nat.mul_one]at this;exact this
      obtain⟨b,o,rfl,hcells⟩:=hrd wr HGW.out;have hcell:∀w',A5 wr w'→∀i r,e.bys[i]? =some r→w'.cell? ⟨b,o+i,none⟩=some (.string r):=fun w' g=>by
       obtain⟨b',o',he,h⟩:=hrd w' (HGW.out.trans g);simp only[Ur,Addr.mk.injEq,and_true]at he;obtain⟨rfl,rfl⟩:=he;exact h
      have HC:=UX hcell;have hgb:A5 w1 wr:=HGX.out.trans (HGR.out.trans HGY.out);have HGB:=UX hgb;have c9:wr.cell? ⟨w.heap.size,9,none⟩=some (.slice (some ⟨b,o,none⟩) nb kb):=(HB.out.grew hgb).cell 9;have cs:wr.cell? ⟨b,o+k,none⟩=some (.string s):=hcells k s hs;obtain⟨q,hq⟩:∃q,CI s=q:=⟨_,rfl⟩;have HNm:=UX (fun w'=>IF s (HX3.out s (Uk hs)).1 w');rw[hq]at HNm;have HS:=UX hs;have HQ:=UX hq;have HLT2:=UX (show k<e.bys.length by rw[←HNB.out];exact hlt2);clear hs hq hrd hcells hcell hgb;have hnext:MI e.bys k=true→∀k',k'<k+1→MI e.bys k'=true:=fun h k' hk'=>by
       by_cases e:k'=k
       ·subst e;exact h
       exact HJV.out k' (by omega)
      have HNX:=UX hnext;clear hnext;rcases q with _|_
      ·have HF:=UX (ER HLT2.out (show MI e.bys k=false by
        cases k with
        |zero=>rw[GQ HS.out,HQ.out]
        |succ k'=>
         obtain⟨r,hr⟩:∃r,e.bys[k']? =some r:=⟨_,Uc (by have:=HLT2.out;omega)⟩;rw[GG HS.out hr,HQ.out];rfl))
       go_wp2_with(first|(go_at_call 87;(with_reducible refine(HNm.out _).mono ?_);rintro e4 w4 ⟨rfl,k4⟩));go_ret;exact⟨by rw[HF.out];rfl,HGW.out.trans k4⟩
      rcases k with _|k
      ·have HT:=UX (HNX.out (by rw[GQ HS.out,HQ.out]));have cs0:wr.cell? ⟨b,o,none⟩=some (.string s):=cs;go_wp2_with(first|(go_at_call 87;(with_reducible refine(HNm.out _).mono ?_);rintro e4 w4 ⟨rfl,k4⟩));go_roundw
       case rel=>exact⟨0+1,by omega,by go_num,HGY.out.trans k4,HT.out⟩
       case measure=>simp[intOf];omega
      obtain⟨r,hr⟩:∃r,e.bys[k]? =some r:=⟨_,Uc (by have:=HLT2.out;omega)⟩;have hby2:=GG HS.out hr;rw[HQ.out]at hby2;have HR:=UX hr;obtain⟨x1,hx1⟩:∃x1,Op.bytesLess s.toList r.toList=x1:=⟨_,rfl⟩;obtain⟨x2,hx2⟩:∃x2,(s.toList==r.toList)=x2:=⟨_,rfl⟩;have hle:SK s r=(x1||x2):=by unfold SK;rw[hx1,hx2]
      rw[hle]at hby2;have HBY2:=UX hby2;clear hr hby2 hle;rcases x1 with _|_
      ·rcases x2 with _|_
       ·have HT:=UX (HNX.out HBY2.out);go_wp2_with(first|(go_at_call 87;(with_reducible refine(HNm.out _).mono ?_);rintro e4 w4 ⟨rfl,k4⟩;have d9:w4.cell? ⟨w.heap.size,9,none⟩=some (.slice (some ⟨b,o,none⟩) nb kb):=((HB.out.grew HGB.out).grew k4).cell 9;have dr:=HC.out w4 k4 k r HR.out));go_wp2_with fail;go_roundw
        case rel=>exact⟨k+1+1,by omega,by go_num,HGY.out.trans k4,HT.out⟩
        case measure=>simp[intOf];omega
       have HF:=UX (ER HLT2.out HBY2.out);go_wp2_with(first|(go_at_call 87;(with_reducible refine(HNm.out _).mono ?_);rintro e4 w4 ⟨rfl,k4⟩;have d9:w4.cell? ⟨w.heap.size,9,none⟩=some (.slice (some ⟨b,o,none⟩) nb kb):=((HB.out.grew HGB.out).grew k4).cell 9;have dr:=HC.out w4 k4 k r HR.out));go_ret;exact⟨by rw[HF.out];rfl,HGW.out.trans k4⟩
      have HF:=UX (ER HLT2.out HBY2.out);go_wp2_with(first|(go_at_call 87;(with_reducible refine(HNm.out _).mono ?_);rintro e4 w4 ⟨rfl,k4⟩;have d9:w4.cell? ⟨w.heap.size,9,none⟩=some (.slice (some ⟨b,o,none⟩) nb kb):=((HB.out.grew HGB.out).grew k4).cell 9;have dr:=HC.out w4 k4 k r HR.out));go_ret;exact⟨by rw[HF.out];rfl,HGW.out.trans k4⟩
     obtain rfl:k=nb:=by omega
     have HF:=UX (LZ HBN.out HALL.out (fun j hj=>HJV.out j (by have:=HNB.out;omega)));go_wp2_with fail;go_ret;exact⟨by rw[HF.out];rfl,HGW.out⟩
def Ci (e:Ex):Bool:=decide (e.window=0∧e.offset=0∧e.name.size=0∧e.ms.length=0)
def DR (e:Ex):Bool:=decide (e.num=0∧e.den=0)
theorem D4 (e:Ex) (n nm nb:Nat) (hnm:nm=e.ms.length) (hnn:n=e.kids.length) (hnb:nb=e.bys.length):B7 e=
  (if e.kind=0 then decide (e.fn=0∧n=0∧Ci e=true∧e.k=0∧nb=0∧AU e.num e.den=true)
  else if e.kind=1 then decide (0≤e.fn∧e.fn≤7∧n=0∧DR e=true∧nb=0)
  else if e.kind=2 then decide (0≤e.fn∧e.fn≤4∧n=1∧DR e=true∧Ci e=true)
  else if e.kind=3 then decide (0≤e.fn∧e.fn≤3∧n=2∧DR e=true∧Ci e=true∧e.k=0∧nb=0)
  else false):=by
 subst hnm hnn hnb;unfold B7 Ci DR;rw[Bool.eq_iff_iff]
 (repeat' split)<;>simp[*]<;>(try omega)<;>grind
theorem J1 {s:ByteArray} (h:s.size=0):s.toList.isEmpty=true:=by
 rw[ByteArray.toList_eq,List.isEmpty_iff];exact List.eq_nil_of_length_eq_zero h
theorem Jl {s:ByteArray} (h:¬s.size=0):s.toList.isEmpty=false:=by
 rw[ByteArray.toList_eq,List.isEmpty_eq_false_iff];intro h0;exact h (congrArg List.length h0)
theorem Mw (e:Ex) (Am Ab A:Option Addr) (nm km nb kb n c:Nat) (hnm:nm=e.ms.length) (hnb:nb=e.bys.length) (hnn:n=e.kids.length) (w:World) (h64:DX e):Calls Tryz.prog 52 #[.agg (A8 e (.slice Am nm km) (.slice Ab nb kb) (.slice A n c)).toArray] w fun e' w'=>e'= .returned (.bool (B7 e))∧A5 w w':=by
 have hb:=Ux w 29 (A8 e (.slice Am nm km) (.slice Ab nb kb) (.slice A n c)).toArray;have hG:=(Uv w).alloc (.cells (A8 e (.slice Am nm km) (.slice Ab nb kb) (.slice A n c)).toArray 29);have HFV:=UX (fun w'=>IK e.num e.den w' h64.2.2.2.2.2.1 h64.2.2.2.2.2.2);have HL:=UX (UZ hnm (UZ hnn hnb));clear h64 hnm hnn hnb;go_enter Tryz.func52,Tryz.ntmps52;go_upto_region 1 with fail;generalize w.alloc (.cells (A8 e (.slice Am nm km) (.slice Ab nb kb) (.slice A n c)).toArray 29)=w1 at*;have c0:w1.cell? ⟨w.heap.size,0,none⟩=some (.int .i64 e.kind):=hb.cell 0;have c1:w1.cell? ⟨w.heap.size,1,none⟩=some (.int .i64 e.fn):=hb.cell 1;have c2:w1.cell? ⟨w.heap.size,2,none⟩=some (.int .i64 e.window):=hb.cell 2;have c3:w1.cell? ⟨w.heap.size,3,none⟩=some (.int .i64 e.offset):=hb.cell 3;have c4:w1.cell? ⟨w.heap.size,4,none⟩=some (.int .i64 e.k):=hb.cell 4;have c7:w1.cell? ⟨w.heap.size,7,none⟩=some (.string e.name):=hb.cell 7;have c8:w1.cell? ⟨w.heap.size,8,none⟩=some (.slice Am nm km):=hb.cell 8;have c9:w1.cell? ⟨w.heap.size,9,none⟩=some (.slice Ab nb kb):=hb.cell 9;have c10:w1.cell? ⟨w.heap.size,10,none⟩=some (.slice A n c):=hb.cell 10;have HG:=UX hG;have HB:=UX hb;clear hG hb;go_cut [3] (fun s3 wx=>s3= .bool (Ci e)∧w1=wx)
 case first=>
  refine if h0:e.window=0 then if h1:e.offset=0 then if h2:e.name.size=0 then if h3:nm=0 then ?_ else ?_ else ?_ else ?_ else ?_
  all_goals
   try first|have f0:(e.window==0)=true:=Ud.2 h0|have f0:(e.window==0)=false:=UY.2 h0
   try first|have f1:(e.offset==0)=true:=Ud.2 h1|have f1:(e.offset==0)=false:=UY.2 h1
   try first|have f2:=J1 h2|have f2:=Jl h2
   try first|have f3:((nm:Int)==0)=true:=by rw[Ud];omega|have f3:((nm:Int)==0)=false:=by rw[UY];omega
   first|have HV:=UX (show Ci e=true by obtain⟨hnm,hnn,hnb⟩:=HL.out;unfold Ci;rw[←hnm];exact decide_eq_true (by omega))|have HV:=UX (show Ci e=false by obtain⟨hnm,hnn,hnb⟩:=HL.out;unfold Ci;rw[←hnm];exact Uj (by omega))
   clear h0
   try clear h1
   try clear h2
   try clear h3
   go_wp2_with fail;go_meet;exact⟨by(try rw[HV.out]);(try rw[f3]),rfl⟩
 case rest=>
  obtain⟨rfl,rfl⟩:=hcut;have c5:w1.rangeAt w.heap.size 5 (AA e.num e.den):=HB.out.rangeN 5 (AA e.num e.den) rfl;have hq:=fun w=>(show(binOp .eql 24 (.agg (AA e.num e.den).toArray) (.agg #[.int .i64 0,.int .i64 0])).run Tryz.prog w= .ok (.bool (DR e)) w from Dw e.num e.den 0 0 (DR e) rfl w)
  go_upto_region 3 with(first|(refine lM (.tmp 24) c5 rF ?_)|fail);have c5':w1.cell? ⟨w.heap.size,5,none⟩=some (.int .i64 e.num):=HB.out.cell 5;have c6':w1.cell? ⟨w.heap.size,6,none⟩=some (.int .i64 e.den):=HB.out.cell 6;clear c5 hq;refine if hk0:e.kind=0 then if hf:e.fn=0 then if hn0:n=0 then if hs:Ci e=true then if hq:e.k=0 then if hb:nb=0 then if hv:AU e.num e.den=true then ?_ else ?_ else ?_ else ?_ else ?_ else ?_ else ?_ else if hk1:e.kind=1 then if hg:0≤e.fn then if hu7:e.fn≤7 then if hn0:n=0 then if hm:DR e=true then if hb:nb=0 then ?_ else ?_ else ?_ else ?_ else ?_ else ?_ else if hk2:e.kind=2 then if hg:0≤e.fn then if hu4:e.fn≤4 then if hn1:n=1 then if hm:DR e=true then if hs:Ci e=true then ?_ else ?_ else ?_ else ?_ else ?_ else ?_ else if hk3:e.kind=3 then if hg:0≤e.fn then if hu3:e.fn≤3 then if hn2:n=2 then if hm:DR e=true then if hs:Ci e=true then if hq:e.k=0 then if hb:nb=0 then ?_ else ?_ else ?_ else ?_ else ?_ else ?_ else ?_ else ?_ else ?_
  all_goals
   try first|have qk0:(e.kind==0)=true:=Ud.2 hk0|have qk0:(e.kind==0)=false:=UY.2 hk0
   try first|have qk1:(e.kind==1)=true:=Ud.2 hk1|have qk1:(e.kind==1)=false:=UY.2 hk1
   try first|have qk2:(e.kind==2)=true:=Ud.2 hk2|have qk2:(e.kind==2)=false:=UY.2 hk2
   try first|have qk3:(e.kind==3)=true:=Ud.2 hk3|have qk3:(e.kind==3)=false:=UY.2 hk3
   try first|have qf:(e.fn==0)=true:=Ud.2 hf|have qf:(e.fn==0)=false:=UY.2 hf
   try first|have qg:decide (0≤e.fn)=true:=decide_eq_true hg|have qg:decide (0≤e.fn)=false:=Uj hg
   try first|have qu7:decide (e.fn≤7)=true:=decide_eq_true hu7|have qu7:decide (e.fn≤7)=false:=Uj hu7
   try first|have qu4:decide (e.fn≤4)=true:=decide_eq_true hu4|have qu4:decide (e.fn≤4)=false:=Uj hu4
   try first|have qu3:decide (e.fn≤3)=true:=decide_eq_true hu3|have qu3:decide (e.fn≤3)=false:=Uj hu3
   try first|have qn0:((n:Int)==0)=true:=by rw[Ud];omega|have qn0:((n:Int)==0)=false:=by rw[UY];omega
   try first|have qn1:((n:Int)==1)=true:=by rw[Ud];omega|have qn1:((n:Int)==1)=false:=by rw[UY];omega
   try first|have qn2:((n:Int)==2)=true:=by rw[Ud];omega|have qn2:((n:Int)==2)=false:=by rw[UY];omega
   try first|have qs:Ci e=true:=hs|have qs:Ci e=false:=by simpa using hs
   try first|have qm:DR e=true:=hm|have qm:DR e=false:=by simpa using hm
   try first|have qv:AU e.num e.den=true:=hv|have qv:AU e.num e.den=false:=by simpa using hv
   try first|have qq:(e.k==0)=true:=Ud.2 hq|have qq:(e.k==0)=false:=UY.2 hq
   try first|have qb:((nb:Int)==0)=true:=by rw[Ud];omega|have qb:((nb:Int)==0)=false:=by rw[UY];omega
   first|have HV:=UX (show B7 e=false by obtain⟨hnm,hnn,hnb⟩:=HL.out;clear HG HB c0 c1 c2 c3 c4 c7 c8 c9 c10 HFV c5' c6';rw[D4 e n nm nb hnm hnn hnb];first|((repeat' split)<;>first|omega|rfl|exact Uj (by omega)|exact Uj (by grind))|fail)|have HV:=UX (show B7 e=true by obtain⟨hnm,hnn,hnb⟩:=HL.out;clear HG HB c0 c1 c2 c3 c4 c7 c8 c9 c10 HFV c5' c6';rw[D4 e n nm nb hnm hnn hnb];first|((repeat' split)<;>first|omega|exact decide_eq_true (by grind))|fail)
   try clear hk0
   try clear hk1
   try clear hk2
   try clear hk3
   try clear hf
   try clear hg
   try clear hu7
   try clear hu4
   try clear hu3
   try clear hn0
   try clear hn1
   try clear hn2
   try clear hs
   try clear hm
   try clear hv
   try clear hq
   try clear hb
   go_wp2_with(first|(go_at_call 86;refine(HFV.out _).mono ?_;rintro e3 w3 ⟨rfl,k3⟩));go_ret
   first|exact⟨by(try rw[HV.out]);rfl,HG.out⟩|exact⟨by(try rw[HV.out]);rfl,HG.out.trans k3⟩
theorem Ll (e:Ex) (vm vb vk:Value) (w:World):Calls Tryz.prog 69 #[.agg (A8 e vm vb vk).toArray] w fun e' w'=>e'= .returned (.bool (AJ e))∧A5 w w':=by
 have hb:=Ux w 29 (A8 e vm vb vk).toArray;have hG:=(Uv w).alloc (.cells (A8 e vm vb vk).toArray 29);go_enter Tryz.func69,Tryz.ntmps69;go_upto_region 1 with fail;generalize w.alloc (.cells (A8 e vm vb vk).toArray 29)=w1 at*;have c0:w1.cell? ⟨w.heap.size,0,none⟩=some (.int .i64 e.kind):=hb.cell 0;have c1:w1.cell? ⟨w.heap.size,1,none⟩=some (.int .i64 e.fn):=hb.cell 1;have c2:w1.cell? ⟨w.heap.size,2,none⟩=some (.int .i64 e.window):=hb.cell 2;have c3:w1.cell? ⟨w.heap.size,3,none⟩=some (.int .i64 e.offset):=hb.cell 3;have c4:w1.cell? ⟨w.heap.size,4,none⟩=some (.int .i64 e.k):=hb.cell 4;have HG:=UX hG;clear hG hb;by_cases h0:e.kind=1
 ·have f0:(e.kind==1)=true:=by simpa using h0
  by_cases h1:e.offset<0
  ·have f1:decide (e.offset<0)=true:=by simpa using h1
   have HV:=UX (show AJ e=false by clear HG c0 c1 c2 c3 c4;unfold AJ;(repeat' split)<;>(try simp)<;>(try(intros;omega)));clear h0 h1;go_wp2_with fail;go_ret;exact⟨by rw[HV.out];rfl,HG.out⟩
  have f1:decide (e.offset<0)=false:=by simpa using h1
  by_cases h2:4096<e.offset
  ·have f2:decide (4096<e.offset)=true:=by simpa using h2
   have HV:=UX (show AJ e=false by clear HG c0 c1 c2 c3 c4;unfold AJ;(repeat' split)<;>(try simp)<;>(try(intros;omega)));clear h0 h1 h2;go_wp2_with fail;go_ret;exact⟨by rw[HV.out];rfl,HG.out⟩
  have f2:decide (4096<e.offset)=false:=by simpa using h2
  by_cases h3:e.fn=0
  ·have f3:(e.fn==0)=true:=by simpa using h3
   by_cases h4:e.window=0
   ·have f4:(e.window==0)=true:=by simpa using h4
    by_cases h5:e.k=0
    ·have f5:(e.k==0)=true:=by simpa using h5
     have HV:=UX (show AJ e=true by clear HG c0 c1 c2 c3 c4;unfold AJ;(repeat' split)<;>(try simp)<;>(try(intros;omega)));clear h0 h1 h2 h3 h4 h5;go_wp2_with fail;go_ret;exact⟨by rw[HV.out];rfl,HG.out⟩
    have f5:(e.k==0)=false:=by simpa using h5
    have HV:=UX (show AJ e=false by clear HG c0 c1 c2 c3 c4;unfold AJ;(repeat' split)<;>(try simp)<;>(try(intros;omega)));clear h0 h1 h2 h3 h4 h5;go_wp2_with fail;go_ret;exact⟨by rw[HV.out];rfl,HG.out⟩
   have f4:(e.window==0)=false:=by simpa using h4
   have HV:=UX (show AJ e=false by clear HG c0 c1 c2 c3 c4;unfold AJ;(repeat' split)<;>(try simp)<;>(try(intros;omega)));clear h0 h1 h2 h3 h4;go_wp2_with fail;go_ret;exact⟨by rw[HV.out];rfl,HG.out⟩
  have f3:(e.fn==0)=false:=by simpa using h3
  by_cases h4:e.window<1
  ·have f4:decide (e.window<1)=true:=by simpa using h4
   have HV:=UX (show AJ e=false by clear HG c0 c1 c2 c3 c4;unfold AJ;(repeat' split)<;>(try simp)<;>(try(intros;omega)));clear h0 h1 h2 h3 h4;go_wp2_with fail;go_ret;exact⟨by rw[HV.out];rfl,HG.out⟩
  have f4:decide (e.window<1)=false:=by simpa using h4
  by_cases h5:4096<e.window
  ·have f5:decide (4096<e.window)=true:=by simpa using h5
   have HV:=UX (show AJ e=false by clear HG c0 c1 c2 c3 c4;unfold AJ;(repeat' split)<;>(try simp)<;>(try(intros;omega)));clear h0 h1 h2 h3 h4 h5;go_wp2_with fail;go_ret;exact⟨by rw[HV.out];rfl,HG.out⟩
  have f5:decide (4096<e.window)=false:=by simpa using h5
  by_cases h6:e.fn=7
  ·have f6:(e.fn==7)=true:=by simpa using h6
   by_cases h7:1≤e.k
   ·have f7:decide (1≤e.k)=true:=by simpa using h7
    by_cases h8:e.k≤e.window
    ·have f8:decide (e.k≤e.window)=true:=by simpa using h8
     have HV:=UX (show AJ e=true by clear HG c0 c1 c2 c3 c4;unfold AJ;(repeat' split)<;>(try simp)<;>(try(intros;omega)));clear h0 h1 h2 h3 h4 h5 h6 h7 h8;go_wp2_with fail;go_ret;exact⟨by rw[HV.out];rfl,HG.out⟩
    have f8:decide (e.k≤e.window)=false:=by simpa using h8
    have HV:=UX (show AJ e=false by clear HG c0 c1 c2 c3 c4;unfold AJ;(repeat' split)<;>(try simp)<;>(try(intros;omega)));clear h0 h1 h2 h3 h4 h5 h6 h7 h8;go_wp2_with fail;go_ret;exact⟨by rw[HV.out];rfl,HG.out⟩
   have f7:decide (1≤e.k)=false:=by simpa using h7
   have HV:=UX (show AJ e=false by clear HG c0 c1 c2 c3 c4;unfold AJ;(repeat' split)<;>(try simp)<;>(try(intros;omega)));clear h0 h1 h2 h3 h4 h5 h6 h7;go_wp2_with fail;go_ret;exact⟨by rw[HV.out];rfl,HG.out⟩
  have f6:(e.fn==7)=false:=by simpa using h6
  by_cases h7:e.k=0
  ·have f7:(e.k==0)=true:=by simpa using h7
   have HV:=UX (show AJ e=true by clear HG c0 c1 c2 c3 c4;unfold AJ;(repeat' split)<;>(try simp)<;>(try(intros;omega)));clear h0 h1 h2 h3 h4 h5 h6 h7;go_wp2_with fail;go_ret;exact⟨by rw[HV.out];rfl,HG.out⟩
  have f7:(e.k==0)=false:=by simpa using h7
  have HV:=UX (show AJ e=false by clear HG c0 c1 c2 c3 c4;unfold AJ;(repeat' split)<;>(try simp)<;>(try(intros;omega)));clear h0 h1 h2 h3 h4 h5 h6 h7;go_wp2_with fail;go_ret;exact⟨by rw[HV.out];rfl,HG.out⟩
 have f0:(e.kind==1)=false:=by simpa using h0
 by_cases h1:e.kind=2
 ·have f1:(e.kind==2)=true:=by simpa using h1
  by_cases h2:e.fn=4
  ·have f2:(e.fn==4)=true:=by simpa using h2
   by_cases h3:1≤e.k
   ·have f3:decide (1≤e.k)=true:=by simpa using h3
    by_cases h4:e.k≤4096
    ·have f4:decide (e.k≤4096)=true:=by simpa using h4
     have HV:=UX (show AJ e=true by clear HG c0 c1 c2 c3 c4;unfold AJ;(repeat' split)<;>(try simp)<;>(try(intros;omega)));clear h0 h1 h2 h3 h4;go_wp2_with fail;go_ret;exact⟨by rw[HV.out];rfl,HG.out⟩
    have f4:decide (e.k≤4096)=false:=by simpa using h4
    have HV:=UX (show AJ e=false by clear HG c0 c1 c2 c3 c4;unfold AJ;(repeat' split)<;>(try simp)<;>(try(intros;omega)));clear h0 h1 h2 h3 h4;go_wp2_with fail;go_ret;exact⟨by rw[HV.out];rfl,HG.out⟩
   have f3:decide (1≤e.k)=false:=by simpa using h3
   have HV:=UX (show AJ e=false by clear HG c0 c1 c2 c3 c4;unfold AJ;(repeat' split)<;>(try simp)<;>(try(intros;omega)));clear h0 h1 h2 h3;go_wp2_with fail;go_ret;exact⟨by rw[HV.out];rfl,HG.out⟩
  have f2:(e.fn==4)=false:=by simpa using h2
  by_cases h3:e.k=0
  ·have f3:(e.k==0)=true:=by simpa using h3
   have HV:=UX (show AJ e=true by clear HG c0 c1 c2 c3 c4;unfold AJ;(repeat' split)<;>(try simp)<;>(try(intros;omega)));clear h0 h1 h2 h3;go_wp2_with fail;go_ret;exact⟨by rw[HV.out];rfl,HG.out⟩
  have f3:(e.k==0)=false:=by simpa using h3
  have HV:=UX (show AJ e=false by clear HG c0 c1 c2 c3 c4;unfold AJ;(repeat' split)<;>(try simp)<;>(try(intros;omega)));clear h0 h1 h2 h3;go_wp2_with fail;go_ret;exact⟨by rw[HV.out];rfl,HG.out⟩
 have f1:(e.kind==2)=false:=by simpa using h1
 by_cases h2:e.k=0
 ·have f2:(e.k==0)=true:=by simpa using h2
  have HV:=UX (show AJ e=true by clear HG c0 c1 c2 c3 c4;unfold AJ;(repeat' split)<;>(try simp)<;>(try(intros;omega)));clear h0 h1 h2;go_wp2_with fail;go_ret;exact⟨by rw[HV.out];rfl,HG.out⟩
 have f2:(e.k==0)=false:=by simpa using h2
 have HV:=UX (show AJ e=false by clear HG c0 c1 c2 c3 c4;unfold AJ;(repeat' split)<;>(try simp)<;>(try(intros;omega)));clear h0 h1 h2;go_wp2_with fail;go_ret;exact⟨by rw[HV.out];rfl,HG.out⟩
theorem MX (e:Ex) (vm vb vk:Value) (w:World) (hsh:e.kind≠1→e.kind≠2→e.k=0):Calls Tryz.prog 54 #[.agg (A8 e vm vb vk).toArray] w fun e' w'=>e'= .returned (.bool (AJ e))∧A5 w w':=by
 have hb:=Ux w 29 (A8 e vm vb vk).toArray;have hG:=(Uv w).alloc (.cells (A8 e vm vb vk).toArray 29);go_enter Tryz.func54,Tryz.ntmps54;go_upto_region 1 with fail;generalize w.alloc (.cells (A8 e vm vb vk).toArray 29)=w1 at*;have c0:w1.cell? ⟨w.heap.size,0,none⟩=some (.int .i64 e.kind):=hb.cell 0;have c1:w1.cell? ⟨w.heap.size,1,none⟩=some (.int .i64 e.fn):=hb.cell 1;have c2:w1.cell? ⟨w.heap.size,2,none⟩=some (.int .i64 e.window):=hb.cell 2;have c3:w1.cell? ⟨w.heap.size,3,none⟩=some (.int .i64 e.offset):=hb.cell 3;have c4:w1.cell? ⟨w.heap.size,4,none⟩=some (.int .i64 e.k):=hb.cell 4;have HG:=UX hG;clear hG hb;by_cases h0:e.kind=1
 ·have f0:(e.kind==1)=true:=by simpa using h0
  by_cases h1:e.offset<0
  ·have f1:decide (e.offset<0)=true:=by simpa using h1
   have HV:=UX (show AJ e=false by clear HG c0 c1 c2 c3 c4;unfold AJ;(repeat' split)<;>(try simp)<;>(try(intros;omega)));clear h0 h1;go_wp2_with fail;go_ret;exact⟨by rw[HV.out];rfl,HG.out⟩
  have f1:decide (e.offset<0)=false:=by simpa using h1
  by_cases h2:4096<e.offset
  ·have f2:decide (4096<e.offset)=true:=by simpa using h2
   have HV:=UX (show AJ e=false by clear HG c0 c1 c2 c3 c4;unfold AJ;(repeat' split)<;>(try simp)<;>(try(intros;omega)));clear h0 h1 h2;go_wp2_with fail;go_ret;exact⟨by rw[HV.out];rfl,HG.out⟩
  have f2:decide (4096<e.offset)=false:=by simpa using h2
  by_cases h3:e.fn=0
  ·have f3:(e.fn==0)=true:=by simpa using h3
   by_cases h4:e.window=0
   ·have f4:(e.window==0)=true:=by simpa using h4
    by_cases h5:e.k=0
    ·have f5:(e.k==0)=true:=by simpa using h5
     have HV:=UX (show AJ e=true by clear HG c0 c1 c2 c3 c4;unfold AJ;(repeat' split)<;>(try simp)<;>(try(intros;omega)));clear h0 h1 h2 h3 h4 h5;go_wp2_with fail;go_ret;exact⟨by rw[HV.out];rfl,HG.out⟩
    have f5:(e.k==0)=false:=by simpa using h5
    have HV:=UX (show AJ e=false by clear HG c0 c1 c2 c3 c4;unfold AJ;(repeat' split)<;>(try simp)<;>(try(intros;omega)));clear h0 h1 h2 h3 h4 h5;go_wp2_with fail;go_ret;exact⟨by rw[HV.out];rfl,HG.out⟩
   have f4:(e.window==0)=false:=by simpa using h4
   have HV:=UX (show AJ e=false by clear HG c0 c1 c2 c3 c4;unfold AJ;(repeat' split)<;>(try simp)<;>(try(intros;omega)));clear h0 h1 h2 h3 h4;go_wp2_with fail;go_ret;exact⟨by rw[HV.out];rfl,HG.out⟩
  have f3:(e.fn==0)=false:=by simpa using h3
  by_cases h4:e.window<1
  ·have f4:decide (e.window<1)=true:=by simpa using h4
   have HV:=UX (show AJ e=false by clear HG c0 c1 c2 c3 c4;unfold AJ;(repeat' split)<;>(try simp)<;>(try(intros;omega)));clear h0 h1 h2 h3 h4;go_wp2_with fail;go_ret;exact⟨by rw[HV.out];rfl,HG.out⟩
  have f4:decide (e.window<1)=false:=by simpa using h4
  by_cases h5:4096<e.window
  ·have f5:decide (4096<e.window)=true:=by simpa using h5
   have HV:=UX (show AJ e=false by clear HG c0 c1 c2 c3 c4;unfold AJ;(repeat' split)<;>(try simp)<;>(try(intros;omega)));clear h0 h1 h2 h3 h4 h5;go_wp2_with fail;go_ret;exact⟨by rw[HV.out];rfl,HG.out⟩
  have f5:decide (4096<e.window)=false:=by simpa using h5
  by_cases h6:e.fn=7
  ·have f6:(e.fn==7)=true:=by simpa using h6
   by_cases h7:1≤e.k
   ·have f7:decide (1≤e.k)=true:=by simpa using h7
    by_cases h8:e.k≤e.window
    ·have f8:decide (e.k≤e.window)=true:=by simpa using h8
     have HV:=UX (show AJ e=true by clear HG c0 c1 c2 c3 c4;unfold AJ;(repeat' split)<;>(try simp)<;>(try(intros;omega)));clear h0 h1 h2 h3 h4 h5 h6 h7 h8;go_wp2_with fail;go_ret;exact⟨by rw[HV.out];rfl,HG.out⟩
    have f8:decide (e.k≤e.window)=false:=by simpa using h8
    have HV:=UX (show AJ e=false by clear HG c0 c1 c2 c3 c4;unfold AJ;(repeat' split)<;>(try simp)<;>(try(intros;omega)));clear h0 h1 h2 h3 h4 h5 h6 h7 h8;go_wp2_with fail;go_ret;exact⟨by rw[HV.out];rfl,HG.out⟩
   have f7:decide (1≤e.k)=false:=by simpa using h7
   have HV:=UX (show AJ e=false by clear HG c0 c1 c2 c3 c4;unfold AJ;(repeat' split)<;>(try simp)<;>(try(intros;omega)));clear h0 h1 h2 h3 h4 h5 h6 h7;go_wp2_with fail;go_ret;exact⟨by rw[HV.out];rfl,HG.out⟩
  have f6:(e.fn==7)=false:=by simpa using h6
  by_cases h7:e.k=0
  ·have f7:(e.k==0)=true:=by simpa using h7
   have HV:=UX (show AJ e=true by clear HG c0 c1 c2 c3 c4;unfold AJ;(repeat' split)<;>(try simp)<;>(try(intros;omega)));clear h0 h1 h2 h3 h4 h5 h6 h7;go_wp2_with fail;go_ret;exact⟨by rw[HV.out];rfl,HG.out⟩
  have f7:(e.k==0)=false:=by simpa using h7
  have HV:=UX (show AJ e=false by clear HG c0 c1 c2 c3 c4;unfold AJ;(repeat' split)<;>(try simp)<;>(try(intros;omega)));clear h0 h1 h2 h3 h4 h5 h6 h7;go_wp2_with fail;go_ret;exact⟨by rw[HV.out];rfl,HG.out⟩
 have f0:(e.kind==1)=false:=by simpa using h0
 by_cases h1:e.kind=2
 ·have f1:(e.kind==2)=true:=by simpa using h1
  by_cases h2:e.fn=4
  ·have f2:(e.fn==4)=true:=by simpa using h2
   by_cases h3:1≤e.k
   ·have f3:decide (1≤e.k)=true:=by simpa using h3
    by_cases h4:e.k≤4096
    ·have f4:decide (e.k≤4096)=true:=by simpa using h4
     have HV:=UX (show AJ e=true by clear HG c0 c1 c2 c3 c4;unfold AJ;(repeat' split)<;>(try simp)<;>(try(intros;omega)));clear h0 h1 h2 h3 h4;go_wp2_with fail;go_ret;exact⟨by rw[HV.out];rfl,HG.out⟩
    have f4:decide (e.k≤4096)=false:=by simpa using h4
    have HV:=UX (show AJ e=false by clear HG c0 c1 c2 c3 c4;unfold AJ;(repeat' split)<;>(try simp)<;>(try(intros;omega)));clear h0 h1 h2 h3 h4;go_wp2_with fail;go_ret;exact⟨by rw[HV.out];rfl,HG.out⟩
   have f3:decide (1≤e.k)=false:=by simpa using h3
   have HV:=UX (show AJ e=false by clear HG c0 c1 c2 c3 c4;unfold AJ;(repeat' split)<;>(try simp)<;>(try(intros;omega)));clear h0 h1 h2 h3;go_wp2_with fail;go_ret;exact⟨by rw[HV.out];rfl,HG.out⟩
  have f2:(e.fn==4)=false:=by simpa using h2
  by_cases h3:e.k=0
  ·have f3:(e.k==0)=true:=by simpa using h3
   have HV:=UX (show AJ e=true by clear HG c0 c1 c2 c3 c4;unfold AJ;(repeat' split)<;>(try simp)<;>(try(intros;omega)));clear h0 h1 h2 h3;go_wp2_with fail;go_ret;exact⟨by rw[HV.out];rfl,HG.out⟩
  have f3:(e.k==0)=false:=by simpa using h3
  have HV:=UX (show AJ e=false by clear HG c0 c1 c2 c3 c4;unfold AJ;(repeat' split)<;>(try simp)<;>(try(intros;omega)));clear h0 h1 h2 h3;go_wp2_with fail;go_ret;exact⟨by rw[HV.out];rfl,HG.out⟩
 have f1:(e.kind==2)=false:=by simpa using h1
 have HV:=UX (show AJ e=true by clear HG c0 c1 c2 c3 c4;unfold AJ;(repeat' split)<;>(try simp)<;>(try(intros;omega)));clear h0 h1;go_wp2_with fail;go_ret;exact⟨by rw[HV.out];rfl,HG.out⟩
end Go.Proofs.YtkclnhpofkaclaaGreatDoor
