/- What the card of the law stands on: Named, Shaped, Within. -/
import Derived.Test.YthpflelgbadkcaaGreatDoorRewriteSizeP01
import Derived.Test.YthpflelgbadkcaaGreatDoorRewriteSizeP09
import Derived.Laws.Cover1
import Derived.Deep.DeepCutAuto
import Derived.Test.YthpflelgbadkcaaGreatDoorRewriteSizeP03
import Derived.Test.YthpflelgbadkcaaGreatDoorRewriteSizeP07
import Derived.Test.YthpflelgbadkcaaGreatDoorRewriteSizeP04
import Derived.Test.YthpflelgbadkcaaGreatDoorRewriteSizeP02
set_option maxRecDepth 100000
set_option maxHeartbeats 12800000
set_option linter.unusedVariables false
set_option linter.unusedSimpArgs false
namespace Go.Proofs.YthpflelgbadkcaaGreatDoor
open Go.RowKit Pl
def D5 (w:World):Prop:=0<w.heap.size∧∀j s,DC[j]? =some s→w.cell? ⟨0,j,none⟩=some (.string s)
theorem D5.grew {w w':World} (h:D5 w) (g:A5 w w'):D5 w':=⟨SE h.1 g.size,fun j s hj=>(World.cell?_of_block (a:=⟨0,j,none⟩) (g.block _ h.1 (fun e=>e))).trans (h.2 j s hj)⟩
theorem D5.rd {w:World} (h:D5 w):Ch w w.heap.size 1 (.slice (some ⟨0,0,none⟩) 5 5) (DC.map fun s=>[Value.string s]):=by
 refine⟨_,5,rfl,by decide,fun _=>⟨_,0,rfl,h.1,fun j cs hj k u hk=>?_⟩⟩;rw[Nat.zero_add,Nat.mul_one];rw[List.getElem?_map]at hj;obtain⟨x,hx,rfl⟩:=Option.map_eq_some_iff.1 hj;obtain⟨rfl,rfl⟩:k=0∧Value.string x=u:=by
  cases k with
  |zero=>exact⟨rfl,by simpa using hk⟩
  |succ k=>simp at hk
 exact h.2 j x hx
theorem My (e:Ex) (Am Ab A:Option Addr) (nm km nb kb n c:Nat) (hnm:nm=e.ms.length) (hnb:nb=e.bys.length) (w:World) (hms:Ch w w.heap.size 3 (.slice Am nm km) (e.ms.map Au)) (hby:Ch w w.heap.size 1 (.slice Ab nb kb) (e.bys.map fun s=>[Value.string s])) (hx:Qn e) (hw:D5 w):Calls Tryz.prog 64 #[.agg (AE e (.slice Am nm km) (.slice Ab nb kb) (.slice A n c)).toArray] w fun e' w'=>e'= .returned (.bool (Bo e))∧A5 w w':=by
 obtain⟨hx1,hx2,hx3,hx4,hx5⟩:=hx;have hb:=Sc w 29 (AE e (.slice Am nm km) (.slice Ab nb kb) (.slice A n c)).toArray;have hG:=(Sa w).alloc (.cells (AE e (.slice Am nm km) (.slice Ab nb kb) (.slice A n c)).toArray 29);have HT:=S9 hw;have HNM:=S9 hnm;have HNB:=S9 hnb;have hnml:nm≤1000:=by omega
 have hnbl:nb≤1000:=by omega
 have HX1:=S9 hx1;have HX2:=S9 hx2;have HX3:=S9 hx3;have HMS:=S9 hms;have HBY:=S9 hby;clear hnm hnb hx1 hx2 hx3 hx4 hx5 hms hby hw;go_enter Tryz.func64,Tryz.ntmps64;go_upto_region 1 with fail;generalize w.alloc (.cells (AE e (.slice Am nm km) (.slice Ab nb kb) (.slice A n c)).toArray 29)=w1 at*;have c0:w1.cell? ⟨w.heap.size,0,none⟩=some (.int .i64 e.kind):=hb.cell 0;have c7:w1.cell? ⟨w.heap.size,7,none⟩=some (.string e.name):=hb.cell 7;have HG:=S9 hG;have HB:=S9 hb;clear hG hb;go_cut [21] (fun s wx=>s= .bool (Cn e)∧A5 w1 wx)
 case first=>
  by_cases hk:e.kind=1
  ·have t0:(e.kind==1)=true:=by simpa using hk
   obtain⟨q1,hq1⟩:∃q,CQ e.name=q:=⟨_,rfl⟩;obtain⟨q2,hq2⟩:∃q,Ht DC e.name=q:=⟨_,rfl⟩;have HV:=S9 (show Cn e=(!q1||q2) by unfold Cn;rw[hq1,hq2,decide_eq_true hk];rfl);have HNm:=S9 (show ∀w',Calls Tryz.prog 93 #[.string e.name] w' fun e' w''=>e'= .returned (.bool q1)∧A5 w' w'' from fun w'=>by have:=Iw e.name HX1.out.1 w';rwa[hq1]at this);have HHas:=S9 (show ∀w',A5 w1 w'→Calls Tryz.prog 94 #[.slice (some ⟨0,0,none⟩) 5 5,.string e.name] w' fun e' w''=>e'= .returned (.bool q2)∧w''=w' from fun w' g=>by have:=Ju _ DC e.name w' ((HT.out.grew (HG.out.trans g)).rd) (by decide);rwa[hq2]at this);have HK:=S9 (show ∀w',A5 w1 w'→A5 w1 w'∧w'.cell? ⟨w.heap.size,0,none⟩=some (.int .i64 e.kind)∧w'.cell? ⟨w.heap.size,7,none⟩=some (.string e.name)from fun w' g=>⟨g,(HB.out.grew g).cell 0,(HB.out.grew g).cell 7⟩);have g0:=Sa w1;clear hk hq1 hq2;have HK:=S9 (show ∀w',A5 w1.drew w'→A5 w1 w'∧w'.cell? ⟨w.heap.size,0,none⟩=some (.int .i64 e.kind)∧w'.cell? ⟨w.heap.size,7,none⟩=some (.string e.name)from fun w' g=>HK.out w' ((Sd (Sa w1)).trans g));rcases q1 with _|_
   ·refine Lf (by kernel_rfl) [.pointer (some ⟨w.heap.size,0,none⟩),.int .i64 e.kind,.bool true,.bool true,.pointer (some ⟨w.heap.size,7,none⟩),.string e.name,.bool false,.bool true,.bool true,undef,undef,undef,undef,.bool true,.bool true] _ (by kernel_rfl) (by kernel_rfl) rfl ?sH (by kernel_rfl) ?sT
    case sH=>
     simp only[List.toList_toArray,AI,Act.put,List.setIfInBounds_toArray,List.set_cons_zero,List.set_cons_succ];refine A4 (by kernel_rfl) (fun w' hg=>?_) ?_
     ·go_simp;exact Sa _
     refine A4 (by kernel_rfl) (fun w' hg=>?_) ?_
     ·obtain⟨g0,g1,g2⟩:=HK.out _ hg;go_simp;exact Sa _
     refine A4 (by kernel_rfl) (fun w' hg=>?_) ?_
     ·go_simp;exact Sa _
     refine A4 (by kernel_rfl) (fun w' hg=>?_) ?_
     ·go_simp;exact Sa _
     refine A4 (by kernel_rfl) (fun w' hg=>?_) ?_
     ·go_simp;exact Sa _
     refine A4 (by kernel_rfl) (fun w' hg=>?_) ?_
     ·obtain⟨g0,g1,g2⟩:=HK.out _ hg;go_simp;exact Sa _
     refine A4 (by kernel_rfl) (fun w' hg=>?_) ?_
     ·go_simp;(with_reducible refine(HNm.out _).mono ?_);rintro e3 wz ⟨rfl,gz⟩;exact⟨rfl,gz⟩
     refine A4 (by kernel_rfl) (fun w' hg=>?_) ?_
     ·go_simp;exact Sa _
     refine A4 (by kernel_rfl) (fun w' hg=>?_) ?_
     ·go_simp;exact Sa _
     refine AA (by kernel_rfl) (by kernel_rfl) ?_;refine AA (by kernel_rfl) (by kernel_rfl) ?_;refine AA (by kernel_rfl) (by kernel_rfl) ?_;refine AA (by kernel_rfl) (by kernel_rfl) ?_;refine A4 (by kernel_rfl) (fun w' hg=>?_) ?_
     ·go_simp;exact Sa _
     refine A4 (by kernel_rfl) (fun w' hg=>?_) ?_
     ·go_simp;exact Sa _
     exact AQ
    case sT=>
     intro wn hgn;simp only[List.toList_toArray,AI,Act.put,List.setIfInBounds_toArray,List.set_cons_zero,List.set_cons_succ];go_wp2_with fail;go_meet;exact⟨by rw[HV.out];rfl,hgn⟩
   refine Lf (by kernel_rfl) [.pointer (some ⟨w.heap.size,0,none⟩),.int .i64 e.kind,.bool true,.bool true,.pointer (some ⟨w.heap.size,7,none⟩),.string e.name,.bool true,.bool false,.bool false,.slice (some ⟨0,0,none⟩) 5 5,.pointer (some ⟨w.heap.size,7,none⟩),.string e.name,.bool q2,.bool q2,.bool q2] _ (by kernel_rfl) (by kernel_rfl) rfl ?sH (by kernel_rfl) ?sT
   case sH=>
    simp only[List.toList_toArray,AI,Act.put,List.setIfInBounds_toArray,List.set_cons_zero,List.set_cons_succ];refine A4 (by kernel_rfl) (fun w' hg=>?_) ?_
    ·go_simp;exact Sa _
    refine A4 (by kernel_rfl) (fun w' hg=>?_) ?_
    ·obtain⟨g0,g1,g2⟩:=HK.out _ hg;go_simp;exact Sa _
    refine A4 (by kernel_rfl) (fun w' hg=>?_) ?_
    ·go_simp;exact Sa _
    refine A4 (by kernel_rfl) (fun w' hg=>?_) ?_
    ·go_simp;exact Sa _
    refine A4 (by kernel_rfl) (fun w' hg=>?_) ?_
    ·go_simp;exact Sa _
    refine A4 (by kernel_rfl) (fun w' hg=>?_) ?_
    ·obtain⟨g0,g1,g2⟩:=HK.out _ hg;go_simp;exact Sa _
    refine A4 (by kernel_rfl) (fun w' hg=>?_) ?_
    ·go_simp;(with_reducible refine(HNm.out _).mono ?_);rintro e3 wz ⟨rfl,gz⟩;exact⟨rfl,gz⟩
    refine A4 (by kernel_rfl) (fun w' hg=>?_) ?_
    ·go_simp;exact Sa _
    refine A4 (by kernel_rfl) (fun w' hg=>?_) ?_
    ·go_simp;exact Sa _
    refine A4 (by kernel_rfl) (fun w' hg=>?_) ?_
    ·go_simp;exact Sa _
    refine A4 (by kernel_rfl) (fun w' hg=>?_) ?_
    ·go_simp;exact Sa _
    refine A4 (by kernel_rfl) (fun w' hg=>?_) ?_
    ·obtain⟨g0,g1,g2⟩:=HK.out _ hg;go_simp;exact Sa _
    refine A4 (by kernel_rfl) (fun w' hg=>?_) ?_
    ·obtain⟨g0,g1,g2⟩:=HK.out _ hg;go_simp;(with_reducible refine(HHas.out _ g0).mono ?_);rintro e3 wz ⟨rfl,rfl⟩;exact⟨rfl,Sa _⟩
    refine A4 (by kernel_rfl) (fun w' hg=>?_) ?_
    ·go_simp;exact Sa _
    refine A4 (by kernel_rfl) (fun w' hg=>?_) ?_
    ·go_simp;exact Sa _
    exact AQ
   case sT=>
    intro wn hgn;simp only[List.toList_toArray,AI,Act.put,List.setIfInBounds_toArray,List.set_cons_zero,List.set_cons_succ];go_wp2_with fail;go_meet;exact⟨by rw[HV.out];rfl,hgn⟩
  have t0:(e.kind==1)=false:=by simpa using hk
  have HV:=S9 (show Cn e=false by unfold Cn;rw[SM hk];rfl);clear hk;go_quiet (fail);go_wp2_with fail;go_meet;exact⟨by rw[HV.out],Sg (Sa _) _⟩
 case rest=>
  obtain⟨rfl,hgx⟩:=hcut;have HGX:=S9 hgx;clear hgx c0 c7;cases hbn:Cn e with
  |true=>
   have HF:=S9 (MA hbn);clear hbn;go_wp2_with fail;go_ret;exact⟨by rw[HF.out];rfl,HG.out.trans HGX.out⟩
  |false=>
   have HBN:=S9 hbn;clear hbn;have c8:wc.cell? ⟨w.heap.size,8,none⟩=some (.slice Am nm km):=(HB.out.grew HGX.out).cell 8;go_wp2_with fail;go_loopw [4,25] (fun _ i wr=>∃j:Nat,j≤nm∧i= .int .i64 (j:Nat)∧A5 wc wr∧∀j' m,j'<j→e.ms[j']? =some m→BU m=true) (fun _ i _=>nm-(intOf i).toNat)
   case atStart=>exact⟨0,by omega,rfl,Sa _,fun j' m h=>absurd h (by omega)⟩
   case round=>
    obtain⟨j,hj,rfl,hGr,hinv⟩:=hrel;have HGR:=S9 hGr;have HIV:=S9 hinv;clear hGr hinv;by_cases hlt:j<nm
    ·obtain⟨m,hm⟩:∃m,e.ms[j]? =some m:=⟨_,SF (by rw[←HNM.out];exact hlt)⟩;have hgw:=HG.out.trans (HGX.out.trans HGR.out);obtain⟨b,o,hbA,hrg⟩:=(HMS.out.keep (SD _) hgw.size hgw (fun _ _ h=>h)).at_ (j:=j) (cs:=Au m) (by rw[List.getElem?_map,hm];rfl);subst hbA;have hmem:m∈e.ms:=SN hm;have HRg:=S9 hrg;obtain⟨q,hq⟩:∃q,BU m=q:=⟨_,rfl⟩;have HVM:=S9 (fun w'=>L4 m (HX2.out m hmem).1.1 (HX2.out m hmem).2.1 w');rw[hq]at HVM;have HQ:=S9 hq;have HMM:=S9 hmem;have HM:=S9 hm;clear hrg hmem hm hq hgw;rcases q with _|_
     ·have HF:=S9 (On HMM.out HQ.out);go_wp2_with(first|((with_reducible refine AG 68 (.tmp 27) rfl ?_);refine wpList_load_mid rfl 68 (.tmp 27) rfl b (o+j*3) rfl (Au m) _ HRg.out Tryz.underlying68 rfl Ez ?_)|((with_reducible refine AF 68 (.tmp 4) (.tmp 28) rfl ?_);refine Ar 68 (.tmp 4) (.tmp 28) (wr.heap.size) (Au m) Qb 68 Ez rfl (DP m) rfl rfl rfl rfl (Sc wr 68 _) ?_;intro w3 hb3 k3 d3;have g3:A5 wr w3:=Sb ((Sa wr).alloc _) k3 (fun i hi e=>by omega))|((with_reducible refine AG 68 (.tmp 4) rfl ?_);refine BR 68 Tryz.underlying68 rfl (.tmp 4) (wr.heap.size) (Au m) 68 Ez rfl rfl rfl hb3 ?_)|(go_at_call 95;(with_reducible refine(HVM.out _).mono ?_);rintro e4 w4 ⟨rfl,k4⟩));go_ret;exact⟨by rw[HF.out];rfl,HG.out.trans (HGX.out.trans (HGR.out.trans (g3.trans k4)))⟩
     go_wp2_with(first|((with_reducible refine AG 68 (.tmp 27) rfl ?_);refine wpList_load_mid rfl 68 (.tmp 27) rfl b (o+j*3) rfl (Au m) _ HRg.out Tryz.underlying68 rfl Ez ?_)|((with_reducible refine AF 68 (.tmp 4) (.tmp 28) rfl ?_);refine Ar 68 (.tmp 4) (.tmp 28) (wr.heap.size) (Au m) Qb 68 Ez rfl (DP m) rfl rfl rfl rfl (Sc wr 68 _) ?_;intro w3 hb3 k3 d3;have g3:A5 wr w3:=Sb ((Sa wr).alloc _) k3 (fun i hi e=>by omega))|((with_reducible refine AG 68 (.tmp 4) rfl ?_);refine BR 68 Tryz.underlying68 rfl (.tmp 4) (wr.heap.size) (Au m) 68 Ez rfl rfl rfl hb3 ?_)|(go_at_call 95;(with_reducible refine(HVM.out _).mono ?_);rintro e4 w4 ⟨rfl,k4⟩));go_roundw
     case rel=>exact⟨j+1,by omega,by go_num,HGR.out.trans (g3.trans k4),fun j' m' h1 h2=>by
      by_cases hjj:j'=j
      ·subst hjj;rw[HM.out]at h2;obtain rfl:=SI h2;exact HQ.out
      exact HIV.out j' m' (by omega) h2⟩
     case measure=>simp[intOf];omega
    obtain rfl:j=nm:=by omega
    have HALL:=S9 (show ∀m∈e.ms,BU m=true from fun m hm=>by
     obtain⟨j',hj'⟩:=List.getElem?_of_mem hm;exact HIV.out j' m (by have:=(SK.1 hj').1;have:=HNM.out;omega) hj')
    clear c8;have c9:wr.cell? ⟨w.heap.size,9,none⟩=some (.slice Ab nb kb):=(HB.out.grew (HGX.out.trans HGR.out)).cell 9;generalize wr=wv at*;go_wp2_with fail;go_loopw [5,6,36] (fun _ _ i wr=>∃k:Nat,k≤nb∧i= .int .i64 (k:Nat)∧A5 wv wr∧∀k',k'<k→O7 e.bys k'=true) (fun _ _ i _=>nb-(intOf i).toNat)
    case atStart=>exact⟨0,by omega,rfl,Sa _,fun k' h=>absurd h (by omega)⟩
    case round=>
     obtain⟨k,hk,rfl,hGx2,hinv2⟩:=hrel;have HGY:=S9 hGx2;have HJV:=S9 hinv2;have hgw:A5 w wr:=HG.out.trans (HGX.out.trans (HGR.out.trans hGx2));have HGW:=S9 hgw;clear hGx2 hinv2 hgw;by_cases hlt2:k<nb
     ·obtain⟨s,hs⟩:∃s,e.bys[k]? =some s:=⟨_,SF (by rw[←HNB.out];exact hlt2)⟩;have hrd:∀w',A5 w w'→∃b o,Ab=some ⟨b,o,none⟩∧∀i r,e.bys[i]? =some r→w'.cell? ⟨b,o+i,none⟩=some (.string r):=fun w' g=>by
       obtain⟨A',c',hv,hc',hx'⟩:=HBY.out.keep (SD _) g.size g (fun _ _ h=>h);injection hv with e1 e2 e3;obtain⟨b,o,hA,hbb,hcell⟩:=hx' (by rw[←e2];omega);refine⟨b,o,e1.trans hA,fun i r hi=>?_⟩;have:=hcell i [.string r] (by rw[List.getElem?_map,hi];rfl) 0 _ rfl;rw[Nat.mul_one]at this;exact this
      obtain⟨b,o,rfl,hcells⟩:=hrd wr HGW.out;have hcell:∀w',A5 wr w'→∀i r,e.bys[i]? =some r→w'.cell? ⟨b,o+i,none⟩=some (.string r):=fun w' g=>by
       obtain⟨b',o',he,h⟩:=hrd w' (HGW.out.trans g);simp only[SW,Addr.mk.injEq,and_true]at he;obtain⟨rfl,rfl⟩:=he;exact h
      have HC:=S9 hcell;have hgb:A5 w1 wr:=HGX.out.trans (HGR.out.trans HGY.out);have HGB:=S9 hgb;have c9:wr.cell? ⟨w.heap.size,9,none⟩=some (.slice (some ⟨b,o,none⟩) nb kb):=(HB.out.grew hgb).cell 9;have cs:wr.cell? ⟨b,o+k,none⟩=some (.string s):=hcells k s hs;obtain⟨q,hq⟩:∃q,CQ s=q:=⟨_,rfl⟩;have HNm:=S9 (fun w'=>Iw s (HX3.out s (SN hs)).1 w');rw[hq]at HNm;have HS:=S9 hs;have HQ:=S9 hq;have HLT2:=S9 (show k<e.bys.length by rw[←HNB.out];exact hlt2);clear hs hq hrd hcells hcell hgb;have hnext:O7 e.bys k=true→∀k',k'<k+1→O7 e.bys k'=true:=fun h k' hk'=>by
       by_cases e:k'=k
       ·subst e;exact h
       exact HJV.out k' (by omega)
      have HNX:=S9 hnext;clear hnext;rcases q with _|_
      ·have HF:=S9 (IF HLT2.out (show O7 e.bys k=false by
        cases k with
        |zero=>rw[LT HS.out,HQ.out]
        |succ k'=>
         obtain⟨r,hr⟩:∃r,e.bys[k']? =some r:=⟨_,SF (by have:=HLT2.out;omega)⟩;rw[LC HS.out hr,HQ.out];rfl))
       go_wp2_with(first|(go_at_call 93;(with_reducible refine(HNm.out _).mono ?_);rintro e4 w4 ⟨rfl,k4⟩));go_ret;exact⟨by rw[HF.out];rfl,HGW.out.trans k4⟩
      rcases k with _|k
      ·have HT:=S9 (HNX.out (by rw[LT HS.out,HQ.out]));have cs0:wr.cell? ⟨b,o,none⟩=some (.string s):=cs;go_wp2_with(first|(go_at_call 93;(with_reducible refine(HNm.out _).mono ?_);rintro e4 w4 ⟨rfl,k4⟩));go_roundw
       case rel=>exact⟨0+1,by omega,by go_num,HGY.out.trans k4,HT.out⟩
       case measure=>simp[intOf];omega
      obtain⟨r,hr⟩:∃r,e.bys[k]? =some r:=⟨_,SF (by have:=HLT2.out;omega)⟩;have hby2:=LC HS.out hr;rw[HQ.out]at hby2;have HR:=S9 hr;obtain⟨x1,hx1⟩:∃x1,Op.bytesLess s.toList r.toList=x1:=⟨_,rfl⟩;obtain⟨x2,hx2⟩:∃x2,(s.toList==r.toList)=x2:=⟨_,rfl⟩;have hle:RY s r=(x1||x2):=by unfold RY;rw[hx1,hx2]
      rw[hle]at hby2;have HBY2:=S9 hby2;clear hr hby2 hle;rcases x1 with _|_
      ·rcases x2 with _|_
       ·have HT:=S9 (HNX.out HBY2.out);go_wp2_with(first|(go_at_call 93;(with_reducible refine(HNm.out _).mono ?_);rintro e4 w4 ⟨rfl,k4⟩;have d9:w4.cell? ⟨w.heap.size,9,none⟩=some (.slice (some ⟨b,o,none⟩) nb kb):=((HB.out.grew HGB.out).grew k4).cell 9;have dr:=HC.out w4 k4 k r HR.out));go_wp2_with fail;go_roundw
        case rel=>exact⟨k+1+1,by omega,by go_num,HGY.out.trans k4,HT.out⟩
        case measure=>simp[intOf];omega
       have HF:=S9 (IF HLT2.out HBY2.out);go_wp2_with(first|(go_at_call 93;(with_reducible refine(HNm.out _).mono ?_);rintro e4 w4 ⟨rfl,k4⟩;have d9:w4.cell? ⟨w.heap.size,9,none⟩=some (.slice (some ⟨b,o,none⟩) nb kb):=((HB.out.grew HGB.out).grew k4).cell 9;have dr:=HC.out w4 k4 k r HR.out));go_ret;exact⟨by rw[HF.out];rfl,HGW.out.trans k4⟩
      have HF:=S9 (IF HLT2.out HBY2.out);go_wp2_with(first|(go_at_call 93;(with_reducible refine(HNm.out _).mono ?_);rintro e4 w4 ⟨rfl,k4⟩;have d9:w4.cell? ⟨w.heap.size,9,none⟩=some (.slice (some ⟨b,o,none⟩) nb kb):=((HB.out.grew HGB.out).grew k4).cell 9;have dr:=HC.out w4 k4 k r HR.out));go_ret;exact⟨by rw[HF.out];rfl,HGW.out.trans k4⟩
     obtain rfl:k=nb:=by omega
     have HF:=S9 (Ow HBN.out HALL.out (fun j hj=>HJV.out j (by have:=HNB.out;omega)));go_wp2_with fail;go_ret;exact⟨by rw[HF.out];rfl,HGW.out⟩
def Cp (e:Ex):Bool:=decide (e.window=0∧e.offset=0∧e.name.size=0∧e.ms.length=0)
def Du (e:Ex):Bool:=decide (e.num=0∧e.den=0)
theorem Dq (e:Ex) (n nm nb:Nat) (hnm:nm=e.ms.length) (hnn:n=e.kids.length) (hnb:nb=e.bys.length):BN e=
  (if e.kind=0 then decide (e.fn=0∧n=0∧Cp e=true∧e.k=0∧nb=0∧B2 e.num e.den=true)
  else if e.kind=1 then decide (0≤e.fn∧e.fn≤7∧n=0∧Du e=true∧nb=0)
  else if e.kind=2 then decide (0≤e.fn∧e.fn≤4∧n=1∧Du e=true∧Cp e=true)
  else if e.kind=3 then decide (0≤e.fn∧e.fn≤3∧n=2∧Du e=true∧Cp e=true∧e.k=0∧nb=0)
  else false):=by
 subst hnm hnn hnb;unfold BN Cp Du;rw[Bool.eq_iff_iff]
 (repeat' split)<;>simp[*]<;>(try omega)<;>grind
theorem M3 {s:ByteArray} (h:s.size=0):s.toList.isEmpty=true:=by
 rw[ByteArray.toList_eq,List.isEmpty_iff];exact List.eq_nil_of_length_eq_zero h
theorem Nt {s:ByteArray} (h:¬s.size=0):s.toList.isEmpty=false:=by
 rw[ByteArray.toList_eq,List.isEmpty_eq_false_iff];intro h0;exact h (congrArg List.length h0)
theorem Lp (e:Ex) (Am Ab A:Option Addr) (nm km nb kb n c:Nat) (hnm:nm=e.ms.length) (hnb:nb=e.bys.length) (hnn:n=e.kids.length) (w:World) (h64:Ea e):Calls Tryz.prog 63 #[.agg (AE e (.slice Am nm km) (.slice Ab nb kb) (.slice A n c)).toArray] w fun e' w'=>e'= .returned (.bool (BN e))∧A5 w w':=by
 have hb:=Sc w 29 (AE e (.slice Am nm km) (.slice Ab nb kb) (.slice A n c)).toArray;have hG:=(Sa w).alloc (.cells (AE e (.slice Am nm km) (.slice Ab nb kb) (.slice A n c)).toArray 29);have HFV:=S9 (fun w'=>Im e.num e.den w' h64.2.2.2.2.2.1 h64.2.2.2.2.2.2);have HL:=S9 (SC hnm (SC hnn hnb));clear h64 hnm hnn hnb;go_enter Tryz.func63,Tryz.ntmps63;go_upto_region 1 with fail;generalize w.alloc (.cells (AE e (.slice Am nm km) (.slice Ab nb kb) (.slice A n c)).toArray 29)=w1 at*;have c0:w1.cell? ⟨w.heap.size,0,none⟩=some (.int .i64 e.kind):=hb.cell 0;have c1:w1.cell? ⟨w.heap.size,1,none⟩=some (.int .i64 e.fn):=hb.cell 1;have c2:w1.cell? ⟨w.heap.size,2,none⟩=some (.int .i64 e.window):=hb.cell 2;have c3:w1.cell? ⟨w.heap.size,3,none⟩=some (.int .i64 e.offset):=hb.cell 3;have c4:w1.cell? ⟨w.heap.size,4,none⟩=some (.int .i64 e.k):=hb.cell 4;have c7:w1.cell? ⟨w.heap.size,7,none⟩=some (.string e.name):=hb.cell 7;have c8:w1.cell? ⟨w.heap.size,8,none⟩=some (.slice Am nm km):=hb.cell 8;have c9:w1.cell? ⟨w.heap.size,9,none⟩=some (.slice Ab nb kb):=hb.cell 9;have c10:w1.cell? ⟨w.heap.size,10,none⟩=some (.slice A n c):=hb.cell 10;have HG:=S9 hG;have HB:=S9 hb;clear hG hb;go_cut [3] (fun s3 wx=>s3= .bool (Cp e)∧w1=wx)
 case first=>
  refine if h0:e.window=0 then if h1:e.offset=0 then if h2:e.name.size=0 then if h3:nm=0 then ?_ else ?_ else ?_ else ?_ else ?_
  all_goals
   try first|have f0:(e.window==0)=true:=SG.2 h0|have f0:(e.window==0)=false:=SA.2 h0
   try first|have f1:(e.offset==0)=true:=SG.2 h1|have f1:(e.offset==0)=false:=SA.2 h1
   try first|have f2:=M3 h2|have f2:=Nt h2
   try first|have f3:((nm:Int)==0)=true:=by rw[SG];omega|have f3:((nm:Int)==0)=false:=by rw[SA];omega
   first|have HV:=S9 (show Cp e=true by obtain⟨hnm,hnn,hnb⟩:=HL.out;unfold Cp;rw[←hnm];exact decide_eq_true (by omega))|have HV:=S9 (show Cp e=false by obtain⟨hnm,hnn,hnb⟩:=HL.out;unfold Cp;rw[←hnm];exact SM (by omega))
   clear h0
   try clear h1
   try clear h2
   try clear h3
   go_wp2_with fail;go_meet;exact⟨by(try rw[HV.out]);(try rw[f3]),rfl⟩
 case rest=>
  obtain⟨rfl,rfl⟩:=hcut;have c5:w1.rangeAt w.heap.size 5 (AN e.num e.den):=HB.out.rangeN 5 (AN e.num e.den) rfl;have hq:=fun w=>(show(binOp .eql 24 (.agg (AN e.num e.den).toArray) (.agg #[.int .i64 0,.int .i64 0])).run Tryz.prog w= .ok (.bool (Du e)) w from Eo e.num e.den 0 0 (Du e) rfl w)
  go_upto_region 3 with(first|((with_reducible refine AG 24 (.tmp 24) rfl ?_);refine wpList_load_mid rfl 24 (.tmp 24) rfl w.heap.size 5 rfl (AN e.num e.den) _ c5 Tryz.underlying24 rfl Ad ?_));have c5':w1.cell? ⟨w.heap.size,5,none⟩=some (.int .i64 e.num):=HB.out.cell 5;have c6':w1.cell? ⟨w.heap.size,6,none⟩=some (.int .i64 e.den):=HB.out.cell 6;clear c5 hq;refine if hk0:e.kind=0 then if hf:e.fn=0 then if hn0:n=0 then if hs:Cp e=true then if hq:e.k=0 then if hb:nb=0 then if hv:B2 e.num e.den=true then ?_ else ?_ else ?_ else ?_ else ?_ else ?_ else ?_ else if hk1:e.kind=1 then if hg:0≤e.fn then if hu7:e.fn≤7 then if hn0:n=0 then if hm:Du e=true then if hb:nb=0 then ?_ else ?_ else ?_ else ?_ else ?_ else ?_ else if hk2:e.kind=2 then if hg:0≤e.fn then if hu4:e.fn≤4 then if hn1:n=1 then if hm:Du e=true then if hs:Cp e=true then ?_ else ?_ else ?_ else ?_ else ?_ else ?_ else if hk3:e.kind=3 then if hg:0≤e.fn then if hu3:e.fn≤3 then if hn2:n=2 then if hm:Du e=true then if hs:Cp e=true then if hq:e.k=0 then if hb:nb=0 then ?_ else ?_ else ?_ else ?_ else ?_ else ?_ else ?_ else ?_ else ?_
  all_goals
   try first|have qk0:(e.kind==0)=true:=SG.2 hk0|have qk0:(e.kind==0)=false:=SA.2 hk0
   try first|have qk1:(e.kind==1)=true:=SG.2 hk1|have qk1:(e.kind==1)=false:=SA.2 hk1
   try first|have qk2:(e.kind==2)=true:=SG.2 hk2|have qk2:(e.kind==2)=false:=SA.2 hk2
   try first|have qk3:(e.kind==3)=true:=SG.2 hk3|have qk3:(e.kind==3)=false:=SA.2 hk3
   try first|have qf:(e.fn==0)=true:=SG.2 hf|have qf:(e.fn==0)=false:=SA.2 hf
   try first|have qg:decide (0≤e.fn)=true:=decide_eq_true hg|have qg:decide (0≤e.fn)=false:=SM hg
   try first|have qu7:decide (e.fn≤7)=true:=decide_eq_true hu7|have qu7:decide (e.fn≤7)=false:=SM hu7
   try first|have qu4:decide (e.fn≤4)=true:=decide_eq_true hu4|have qu4:decide (e.fn≤4)=false:=SM hu4
   try first|have qu3:decide (e.fn≤3)=true:=decide_eq_true hu3|have qu3:decide (e.fn≤3)=false:=SM hu3
   try first|have qn0:((n:Int)==0)=true:=by rw[SG];omega|have qn0:((n:Int)==0)=false:=by rw[SA];omega
   try first|have qn1:((n:Int)==1)=true:=by rw[SG];omega|have qn1:((n:Int)==1)=false:=by rw[SA];omega
   try first|have qn2:((n:Int)==2)=true:=by rw[SG];omega|have qn2:((n:Int)==2)=false:=by rw[SA];omega
   try first|have qs:Cp e=true:=hs|have qs:Cp e=false:=by simpa using hs
   try first|have qm:Du e=true:=hm|have qm:Du e=false:=by simpa using hm
   try first|have qv:B2 e.num e.den=true:=hv|have qv:B2 e.num e.den=false:=by simpa using hv
   try first|have qq:(e.k==0)=true:=SG.2 hq|have qq:(e.k==0)=false:=SA.2 hq
   try first|have qb:((nb:Int)==0)=true:=by rw[SG];omega|have qb:((nb:Int)==0)=false:=by rw[SA];omega
   first|have HV:=S9 (show BN e=false by obtain⟨hnm,hnn,hnb⟩:=HL.out;clear HG HB c0 c1 c2 c3 c4 c7 c8 c9 c10 HFV c5' c6';rw[Dq e n nm nb hnm hnn hnb];first|((repeat' split)<;>first|omega|rfl|exact SM (by omega)|exact SM (by grind))|fail)|have HV:=S9 (show BN e=true by obtain⟨hnm,hnn,hnb⟩:=HL.out;clear HG HB c0 c1 c2 c3 c4 c7 c8 c9 c10 HFV c5' c6';rw[Dq e n nm nb hnm hnn hnb];first|((repeat' split)<;>first|omega|exact decide_eq_true (by grind))|fail)
   try clear hk0
   try clear hk1
   try clear hk2
   try clear hk3
   try clear hf
   try clear hg
   try clear hu7
   try clear hu4
   try clear hu3
   try clear hn0
   try clear hn1
   try clear hn2
   try clear hs
   try clear hm
   try clear hv
   try clear hq
   try clear hb
   go_wp2_with(first|(go_at_call 92;refine(HFV.out _).mono ?_;rintro e3 w3 ⟨rfl,k3⟩));go_ret
   first|exact⟨by(try rw[HV.out]);rfl,HG.out⟩|exact⟨by(try rw[HV.out]);rfl,HG.out.trans k3⟩
theorem Ll (e:Ex) (vm vb vk:Value) (w:World) (hsh:e.kind≠1→e.kind≠2→e.k=0):Calls Tryz.prog 65 #[.agg (AE e vm vb vk).toArray] w fun e' w'=>e'= .returned (.bool (Ai e))∧A5 w w':=by
 have hb:=Sc w 29 (AE e vm vb vk).toArray;have hG:=(Sa w).alloc (.cells (AE e vm vb vk).toArray 29);go_enter Tryz.func65,Tryz.ntmps65;go_upto_region 1 with fail;generalize w.alloc (.cells (AE e vm vb vk).toArray 29)=w1 at*;have c0:w1.cell? ⟨w.heap.size,0,none⟩=some (.int .i64 e.kind):=hb.cell 0;have c1:w1.cell? ⟨w.heap.size,1,none⟩=some (.int .i64 e.fn):=hb.cell 1;have c2:w1.cell? ⟨w.heap.size,2,none⟩=some (.int .i64 e.window):=hb.cell 2;have c3:w1.cell? ⟨w.heap.size,3,none⟩=some (.int .i64 e.offset):=hb.cell 3;have c4:w1.cell? ⟨w.heap.size,4,none⟩=some (.int .i64 e.k):=hb.cell 4;have HG:=S9 hG;clear hG hb;by_cases h0:e.kind=1
 ·have f0:(e.kind==1)=true:=by simpa using h0
  by_cases h1:e.offset<0
  ·have f1:decide (e.offset<0)=true:=by simpa using h1
   have HV:=S9 (show Ai e=false by clear HG c0 c1 c2 c3 c4;unfold Ai;(repeat' split)<;>(try simp)<;>(try(intros;omega)));clear h0 h1;go_wp2_with fail;go_ret;exact⟨by rw[HV.out];rfl,HG.out⟩
  have f1:decide (e.offset<0)=false:=by simpa using h1
  by_cases h2:4096<e.offset
  ·have f2:decide (4096<e.offset)=true:=by simpa using h2
   have HV:=S9 (show Ai e=false by clear HG c0 c1 c2 c3 c4;unfold Ai;(repeat' split)<;>(try simp)<;>(try(intros;omega)));clear h0 h1 h2;go_wp2_with fail;go_ret;exact⟨by rw[HV.out];rfl,HG.out⟩
  have f2:decide (4096<e.offset)=false:=by simpa using h2
  by_cases h3:e.fn=0
  ·have f3:(e.fn==0)=true:=by simpa using h3
   by_cases h4:e.window=0
   ·have f4:(e.window==0)=true:=by simpa using h4
    by_cases h5:e.k=0
    ·have f5:(e.k==0)=true:=by simpa using h5
     have HV:=S9 (show Ai e=true by clear HG c0 c1 c2 c3 c4;unfold Ai;(repeat' split)<;>(try simp)<;>(try(intros;omega)));clear h0 h1 h2 h3 h4 h5;go_wp2_with fail;go_ret;exact⟨by rw[HV.out];rfl,HG.out⟩
    have f5:(e.k==0)=false:=by simpa using h5
    have HV:=S9 (show Ai e=false by clear HG c0 c1 c2 c3 c4;unfold Ai;(repeat' split)<;>(try simp)<;>(try(intros;omega)));clear h0 h1 h2 h3 h4 h5;go_wp2_with fail;go_ret;exact⟨by rw[HV.out];rfl,HG.out⟩
   have f4:(e.window==0)=false:=by simpa using h4
   have HV:=S9 (show Ai e=false by clear HG c0 c1 c2 c3 c4;unfold Ai;(repeat' split)<;>(try simp)<;>(try(intros;omega)));clear h0 h1 h2 h3 h4;go_wp2_with fail;go_ret;exact⟨by rw[HV.out];rfl,HG.out⟩
  have f3:(e.fn==0)=false:=by simpa using h3
  by_cases h4:e.window<1
  ·have f4:decide (e.window<1)=true:=by simpa using h4
   have HV:=S9 (show Ai e=false by clear HG c0 c1 c2 c3 c4;unfold Ai;(repeat' split)<;>(try simp)<;>(try(intros;omega)));clear h0 h1 h2 h3 h4;go_wp2_with fail;go_ret;exact⟨by rw[HV.out];rfl,HG.out⟩
  have f4:decide (e.window<1)=false:=by simpa using h4
  by_cases h5:4096<e.window
  ·have f5:decide (4096<e.window)=true:=by simpa using h5
   have HV:=S9 (show Ai e=false by clear HG c0 c1 c2 c3 c4;unfold Ai;(repeat' split)<;>(try simp)<;>(try(intros;omega)));clear h0 h1 h2 h3 h4 h5;go_wp2_with fail;go_ret;exact⟨by rw[HV.out];rfl,HG.out⟩
  have f5:decide (4096<e.window)=false:=by simpa using h5
  by_cases h6:e.fn=7
  ·have f6:(e.fn==7)=true:=by simpa using h6
   by_cases h7:1≤e.k
   ·have f7:decide (1≤e.k)=true:=by simpa using h7
    by_cases h8:e.k≤e.window
    ·have f8:decide (e.k≤e.window)=true:=by simpa using h8
     have HV:=S9 (show Ai e=true by clear HG c0 c1 c2 c3 c4;unfold Ai;(repeat' split)<;>(try simp)<;>(try(intros;omega)));clear h0 h1 h2 h3 h4 h5 h6 h7 h8;go_wp2_with fail;go_ret;exact⟨by rw[HV.out];rfl,HG.out⟩
    have f8:decide (e.k≤e.window)=false:=by simpa using h8
    have HV:=S9 (show Ai e=false by clear HG c0 c1 c2 c3 c4;unfold Ai;(repeat' split)<;>(try simp)<;>(try(intros;omega)));clear h0 h1 h2 h3 h4 h5 h6 h7 h8;go_wp2_with fail;go_ret;exact⟨by rw[HV.out];rfl,HG.out⟩
   have f7:decide (1≤e.k)=false:=by simpa using h7
   have HV:=S9 (show Ai e=false by clear HG c0 c1 c2 c3 c4;unfold Ai;(repeat' split)<;>(try simp)<;>(try(intros;omega)));clear h0 h1 h2 h3 h4 h5 h6 h7;go_wp2_with fail;go_ret;exact⟨by rw[HV.out];rfl,HG.out⟩
  have f6:(e.fn==7)=false:=by simpa using h6
  by_cases h7:e.k=0
  ·have f7:(e.k==0)=true:=by simpa using h7
   have HV:=S9 (show Ai e=true by clear HG c0 c1 c2 c3 c4;unfold Ai;(repeat' split)<;>(try simp)<;>(try(intros;omega)));clear h0 h1 h2 h3 h4 h5 h6 h7;go_wp2_with fail;go_ret;exact⟨by rw[HV.out];rfl,HG.out⟩
  have f7:(e.k==0)=false:=by simpa using h7
  have HV:=S9 (show Ai e=false by clear HG c0 c1 c2 c3 c4;unfold Ai;(repeat' split)<;>(try simp)<;>(try(intros;omega)));clear h0 h1 h2 h3 h4 h5 h6 h7;go_wp2_with fail;go_ret;exact⟨by rw[HV.out];rfl,HG.out⟩
 have f0:(e.kind==1)=false:=by simpa using h0
 by_cases h1:e.kind=2
 ·have f1:(e.kind==2)=true:=by simpa using h1
  by_cases h2:e.fn=4
  ·have f2:(e.fn==4)=true:=by simpa using h2
   by_cases h3:1≤e.k
   ·have f3:decide (1≤e.k)=true:=by simpa using h3
    by_cases h4:e.k≤4096
    ·have f4:decide (e.k≤4096)=true:=by simpa using h4
     have HV:=S9 (show Ai e=true by clear HG c0 c1 c2 c3 c4;unfold Ai;(repeat' split)<;>(try simp)<;>(try(intros;omega)));clear h0 h1 h2 h3 h4;go_wp2_with fail;go_ret;exact⟨by rw[HV.out];rfl,HG.out⟩
    have f4:decide (e.k≤4096)=false:=by simpa using h4
    have HV:=S9 (show Ai e=false by clear HG c0 c1 c2 c3 c4;unfold Ai;(repeat' split)<;>(try simp)<;>(try(intros;omega)));clear h0 h1 h2 h3 h4;go_wp2_with fail;go_ret;exact⟨by rw[HV.out];rfl,HG.out⟩
   have f3:decide (1≤e.k)=false:=by simpa using h3
   have HV:=S9 (show Ai e=false by clear HG c0 c1 c2 c3 c4;unfold Ai;(repeat' split)<;>(try simp)<;>(try(intros;omega)));clear h0 h1 h2 h3;go_wp2_with fail;go_ret;exact⟨by rw[HV.out];rfl,HG.out⟩
  have f2:(e.fn==4)=false:=by simpa using h2
  by_cases h3:e.k=0
  ·have f3:(e.k==0)=true:=by simpa using h3
   have HV:=S9 (show Ai e=true by clear HG c0 c1 c2 c3 c4;unfold Ai;(repeat' split)<;>(try simp)<;>(try(intros;omega)));clear h0 h1 h2 h3;go_wp2_with fail;go_ret;exact⟨by rw[HV.out];rfl,HG.out⟩
  have f3:(e.k==0)=false:=by simpa using h3
  have HV:=S9 (show Ai e=false by clear HG c0 c1 c2 c3 c4;unfold Ai;(repeat' split)<;>(try simp)<;>(try(intros;omega)));clear h0 h1 h2 h3;go_wp2_with fail;go_ret;exact⟨by rw[HV.out];rfl,HG.out⟩
 have f1:(e.kind==2)=false:=by simpa using h1
 have HV:=S9 (show Ai e=true by clear HG c0 c1 c2 c3 c4;unfold Ai;(repeat' split)<;>(try simp)<;>(try(intros;omega)));clear h0 h1;go_wp2_with fail;go_ret;exact⟨by rw[HV.out];rfl,HG.out⟩
end Go.Proofs.YthpflelgbadkcaaGreatDoor
