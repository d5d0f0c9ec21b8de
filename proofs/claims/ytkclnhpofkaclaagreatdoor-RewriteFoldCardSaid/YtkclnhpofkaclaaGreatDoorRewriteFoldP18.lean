/- What the card of the law stands on: Check, RNamed, RShaped. -/
import Derived.Test.YtkclnhpofkaclaaGreatDoorRewriteFoldP01
import Derived.Test.YtkclnhpofkaclaaGreatDoorRewriteFoldP17
import Derived.Test.YtkclnhpofkaclaaGreatDoorRewriteFoldP15
import Derived.Deep.DeepCutAuto
set_option maxRecDepth 100000
set_option maxHeartbeats 12800000
set_option linter.unusedVariables false
set_option linter.unusedSimpArgs false
namespace Go.Proofs.YtkclnhpofkaclaaGreatDoor
open Go.RowKit Pl
def B1 (e:Ex):Prop:=DX e∧Qt e
theorem Ou {e:Ex} (h:B7 e=true):e.kind≠1→e.kind≠2→e.k=0:=by
 intro h1 h2;unfold B7 at h;simp only[Bool.and_eq_true,decide_eq_true_eq]at h;exact h.1.2 h1 h2
theorem JL:∀(k:Nat) (e:Ex),AD e≤k→k≤1000000→Aw B1 e→∀(w:World) (cs:List Value),Cy w→BC w w.heap.size e cs→
  Calls Tryz.prog 30 #[.agg cs.toArray] w fun e' w'=>e'= .returned (.int .i64 (BF e))∧A5 w w'
 |0,e,h,_,_,_,_,_,_=>absurd (AZ e) (by omega)
 |k+1,e,hk,hk2,hok,w,cs,hwt,hr=>by
  obtain⟨vm,vb,vk,rfl,hms,hby,hT⟩:=hr.open_;obtain⟨Am,nm,km,rfl,hnm⟩:∃A n c,vm= .slice A n c∧n=e.ms.length:=by obtain⟨A,c,h, -⟩:=hms;exact⟨A,_,c,h,by simp⟩
  obtain⟨Ab,nb,kb,rfl,hnb⟩:∃A n c,vb= .slice A n c∧n=e.bys.length:=by obtain⟨A,c,h, -⟩:=hby;exact⟨A,_,c,h,by simp⟩
  obtain⟨A,n,c,rfl,hn, -⟩:=hT.slice;have hne:=Ao e;have hkl:=B9 e.kids;have hnb':n≤1000000:=by omega
  have hnml:nm≤1000:=by have:=hok.top.2.2.2.2.1;omega
  have hnbl:nb≤1000:=by have:=hok.top.2.2.2.2.2;omega
  have HIH:=UX (fun(e':Ex) (w':World) (cs:List Value) (h1:e'∈e.kids) (h3:Cy w') (h2:BC w' w'.heap.size e' cs)=>JL k e' (by have:=AT h1;omega) (by omega) (hok.kid h1) w' cs h3 h2);have HT:=UX hT;have HN:=UX hn;have HE:=UX (Gv e);obtain⟨q1,hq1⟩:∃q,B7 e=q:=⟨_,rfl⟩;obtain⟨q2,hq2⟩:∃q,C3 e=q:=⟨_,rfl⟩;obtain⟨q3,hq3⟩:∃q,AJ e=q:=⟨_,rfl⟩;have HSh:=UX (fun w'=>Mw e Am Ab A nm km nb kb n c hnm hnb hn w' hok.top.1);have HNd:=UX (fun w' (g:A5 w w')=>O6 e Am Ab A nm km nb kb n c hnm hnb w' (hms.keep (Ua _) g.size g (fun _ _ h=>h)) (hby.keep (Ua _) g.size g (fun _ _ h=>h)) hok.top.2 (hwt.grew g));have HRg:=UX (fun(hsh:q1=true) w'=>MX e (.slice Am nm km) (.slice Ab nb kb) (.slice A n c) w' (Ou (by rw[hq1];exact hsh)));have HWT:=UX hwt;rw[hq1]at HSh;rw[hq2]at HNd;rw[hq3]at HRg;have HV:=UX (show Bh e=if q1=false then 1 else if q2=false then 8 else if 8<nm∨8<nb then 4 else if q3=false then 5 else 0 by unfold Bh;rw[hq1,hq2,hq3,hnm,hnb]);have hb1:=Ux w 29 (A8 e (.slice Am nm km) (.slice Ab nb kb) (.slice A n c)).toArray;have hG:=(Uv w).alloc (.cells (A8 e (.slice Am nm km) (.slice Ab nb kb) (.slice A n c)).toArray 29);clear hr hms hby hT hn hne hkl hk hk2 hok hq1 hq2 hq3 hnm hnb hwt;go_enter Tryz.func30,Tryz.ntmps30;go_upto_region 1 with fail;generalize w.alloc (.cells (A8 e (.slice Am nm km) (.slice Ab nb kb) (.slice A n c)).toArray 29)=w1 at*;have HG:=UX hG;have hs1:Hid (w.heap.size<w1.heap.size):=UX hb1.lt;clear hG;rcases q1 with _|_
  ·have HF:=UX (show BF e=1 by rw[HE.out,HV.out];rfl);go_wp2_with(first|(refine lN (.tmp 1) hb1 rX ?_)|(go_at_call 52;(with_reducible refine(HSh.out _).mono ?_);rintro e3 w3 ⟨rfl,k3⟩)|fail);go_ret;exact⟨by rw[HF.out];rfl,HG.out.trans k3⟩
  replace HRg:=UX (HRg.out rfl);go_upto_region 3 with(first|(refine lN (.tmp 1) hb1 rX ?_)|(go_at_call 52;(with_reducible refine(HSh.out _).mono ?_);rintro e3 w3 ⟨rfl,k3⟩)|fail);have hb3:=hb1.grew k3;have HG3:=UX (HG.out.trans k3);clear hb1 k3 HSh;rcases q2 with _|_
  ·have HF:=UX (show BF e=8 by rw[HE.out,HV.out];rfl);go_wp2_with(first|(refine lN (.tmp 1) hb3 rX ?_)|(go_at_call 53;(with_reducible refine(HNd.out _ HG3.out).mono ?_);rintro e4 w4 ⟨rfl,k4⟩)|fail);go_ret;exact⟨by rw[HF.out];rfl,HG3.out.trans k4⟩
  go_upto_region 5 with(first|(refine lN (.tmp 1) hb3 rX ?_)|(go_at_call 53;(with_reducible refine(HNd.out _ HG3.out).mono ?_);rintro e4 w4 ⟨rfl,k4⟩)|fail);have hb4:=hb3.grew k4;have HG4:=UX (HG3.out.trans k4);clear hb3 k4 HNd;have c8:w4.cell? ⟨w.heap.size,8,none⟩=some (.slice Am nm km):=hb4.cell 8;have c9:w4.cell? ⟨w.heap.size,9,none⟩=some (.slice Ab nb kb):=hb4.cell 9;by_cases hm8:8<nm
  ·have t8:decide ((8:Int)<(nm:Int))=true:=by simp;omega
   have HF:=UX (show BF e=4 by rw[HE.out,show Bh e=4 by rw[HV.out,Un (by simp),Un (by simp),Uo (.inl hm8)]];rfl);clear hm8;go_wp2_with fail;go_ret;exact⟨by rw[HF.out];rfl,HG4.out⟩
  have t8:decide ((8:Int)<(nm:Int))=false:=by simp;omega
  by_cases hb8:8<nb
  ·have t9:decide ((8:Int)<(nb:Int))=true:=by simp;omega
   have HF:=UX (show BF e=4 by rw[HE.out,show Bh e=4 by rw[HV.out,Un (by simp),Un (by simp),Uo (.inr hb8)]];rfl);clear hm8 hb8;go_wp2_with fail;go_ret;exact⟨by rw[HF.out];rfl,HG4.out⟩
  have t9:decide ((8:Int)<(nb:Int))=false:=by simp;omega
  have HN8:=UX (show ¬(8<nm∨8<nb) by omega);clear hm8 hb8;go_upto_region 7 with fail;clear c8 c9;rcases q3 with _|_
  ·have HF:=UX (show BF e=5 by rw[HE.out,show Bh e=5 by rw[HV.out,Un (by simp),Un (by simp),Un HN8.out,Uo rfl]];rfl);go_wp2_with(first|(refine lN (.tmp 1) hb4 rX ?_)|(go_at_call 54;(with_reducible refine(HRg.out _).mono ?_);rintro e5 w5 ⟨rfl,k5⟩)|fail);go_ret;exact⟨by rw[HF.out];rfl,HG4.out.trans k5⟩
  have HF:=UX (show BF e=BM e.kids by rw[HE.out,show Bh e=0 by rw[HV.out,Un (by simp),Un (by simp),Un HN8.out,Un (by simp)]];rfl);go_upto_region 9 with(first|(refine lN (.tmp 1) hb4 rX ?_)|(go_at_call 54;(with_reducible refine(HRg.out _).mono ?_);rintro e5 w5 ⟨rfl,k5⟩)|fail);have HB5:=UX (hb4.grew k5);have HG5:=UX (HG4.out.trans k5);clear hb4 k5 HRg HV HN8 HE;have c10:w5.cell? ⟨w.heap.size,10,none⟩=some (.slice A n c):=HB5.out.cell 10;go_wp2_with fail;go_loopw [4,5,28] (fun _ _ i wr=>∃j:Nat,j≤n∧i= .int .i64 (j:Nat)∧A5 w5 wr∧BM (e.kids.take j)=0) (fun _ _ i _=>n-(intOf i).toNat)
  case atStart=>exact⟨0,by omega,rfl,Uv _,rfl⟩
  case round=>
   obtain⟨j,hj,rfl,hGr,hz⟩:=hrel;have HZ:=UX hz;have HGR:=UX hGr;have c10:wr.cell? ⟨w.heap.size,10,none⟩=some (.slice A n c):=(HB5.out.grew hGr).cell 10;clear hz hGr;by_cases hlt:j<n
   ·have hjl:j<e.kids.length:=by rw[←HN.out];exact hlt
    obtain⟨e',he'⟩:∃e',e.kids[j]? =some e':=⟨_,Uc hjl⟩;have hmem:e'∈e.kids:=Uk he';obtain⟨b,o,cs,hA,hb,hrg,hre⟩:=(HT.out.grew (HG5.out.trans HGR.out)).at_ he';subst hA;obtain⟨vm',vb',vk',hcs,hm',hy',hT'⟩:=hre.open_;subst hcs;obtain⟨A1,n1,c1,rfl⟩:∃A n c,vm'= .slice A n c:=by obtain⟨A,c,h, -⟩:=hm';exact⟨A,_,c,h⟩
    obtain⟨A2,n2,c2,rfl⟩:∃A n c,vb'= .slice A n c:=by obtain⟨A,c,h, -⟩:=hy';exact⟨A,_,c,h⟩
    obtain⟨A3,n3,c3,rfl, -⟩:=hT'.slice;obtain⟨q,hq⟩:∃q,BF e'=q:=⟨_,rfl⟩;have HI:=UX (fun w' (g:A5 wr w')=>HIH.out e' w' _ hmem (HWT.out.grew ((HG5.out.trans HGR.out).trans g)) (hre.grew g));rw[hq]at HI;have HSn:=UX (show BM (e.kids.take (j+1))=q by rw[Ga he' HZ.out,hq]);have HRk:=UX hrg;have g0:=Uv wr;clear hjl he' hmem hrg hre hq hm' hy' hT';by_cases hq0:q=0
    ·subst hq0;have HSn:=HSn;go_wp2_with(first|(refine lM (.tmp 30) HRk.out rX ?_)|(refine sN (.tmp 4) (.tmp 31) (A8 e' (.slice A1 n1 c1) (.slice A2 n2 c2) (.slice A3 n3 c3)) (Ux wr 29 _) rX ?_ (us:=(AE 0 0));intro w6 hb6 k6 d6;have g6:A5 wr w6:=Uw ((Uv wr).alloc _) k6 (fun i hi e=>by omega))|(refine lN (.tmp 4) hb6 rX ?_)|(go_at_call 30;(with_reducible refine(HI.out _ g6).mono ?_);rintro e7 w7 ⟨rfl,k7⟩)|fail);go_roundw
     case rel=>exact⟨j+1,by omega,by go_num,HGR.out.trans (g6.trans k7),HSn.out⟩
     case measure=>simp[intOf];omega
    have t1:(q==0)=false:=by rw[UY];exact hq0
    have t2:(q !=0)=true:=by rw[bne,t1];rfl
    have HFF:=UX (show BF e=q by rw[HF.out,Fg (by rw[HSn.out];exact hq0),HSn.out]);clear hq0;go_wp2_with(first|(refine lM (.tmp 30) HRk.out rX ?_)|(refine sN (.tmp 4) (.tmp 31) (A8 e' (.slice A1 n1 c1) (.slice A2 n2 c2) (.slice A3 n3 c3)) (Ux wr 29 _) rX ?_ (us:=(AE 0 0));intro w6 hb6 k6 d6;have g6:A5 wr w6:=Uw ((Uv wr).alloc _) k6 (fun i hi e=>by omega))|(refine lN (.tmp 4) hb6 rX ?_)|(go_at_call 30;(with_reducible refine(HI.out _ g6).mono ?_);rintro e7 w7 ⟨rfl,k7⟩)|fail);go_ret;exact⟨by rw[HFF.out];rfl,(HG5.out.trans HGR.out).trans (g6.trans k7)⟩
   obtain rfl:j=n:=by omega
   have HFF:=UX (show BF e=0 by rw[HF.out,←HZ.out,List.take_of_length_le (by rw[←HN.out];exact Ua _)]);go_wp2_with fail;go_ret;exact⟨by rw[HFF.out];rfl,HG5.out.trans HGR.out⟩
theorem MB (e:Ex) (Am Ab A:Option Addr) (nm km nb kb n c:Nat) (hnm:nm=e.ms.length) (hnb:nb=e.bys.length) (w:World) (hms:Bs w w.heap.size 3 (.slice Am nm km) (e.ms.map AL)) (hby:Bs w w.heap.size 1 (.slice Ab nb kb) (e.bys.map fun s=>[Value.string s])) (hx:Qt e):Calls Tryz.prog 68 #[.agg (A8 e (.slice Am nm km) (.slice Ab nb kb) (.slice A n c)).toArray] w fun e' w'=>e'= .returned (.bool (C3 e))∧A5 w w':=by
 obtain⟨hx1,hx2,hx3,hx4,hx5⟩:=hx;have hb:=Ux w 29 (A8 e (.slice Am nm km) (.slice Ab nb kb) (.slice A n c)).toArray;have hG:=(Uv w).alloc (.cells (A8 e (.slice Am nm km) (.slice Ab nb kb) (.slice A n c)).toArray 29);have HNM:=UX hnm;have HNB:=UX hnb;have hnml:nm≤1000:=by omega
 have hnbl:nb≤1000:=by omega
 have HX1:=UX hx1;have HX2:=UX hx2;have HX3:=UX hx3;have HMS:=UX hms;have HBY:=UX hby;clear hnm hnb hx1 hx2 hx3 hx4 hx5 hms hby;go_enter Tryz.func68,Tryz.ntmps68;go_upto_region 1 with fail;generalize w.alloc (.cells (A8 e (.slice Am nm km) (.slice Ab nb kb) (.slice A n c)).toArray 29)=w1 at*;have c0:w1.cell? ⟨w.heap.size,0,none⟩=some (.int .i64 e.kind):=hb.cell 0;have c7:w1.cell? ⟨w.heap.size,7,none⟩=some (.string e.name):=hb.cell 7;have HG:=UX hG;have HB:=UX hb;clear hG hb;go_cut [20] (fun s wx=>s= .bool (Br e)∧A5 w1 wx)
 case first=>
  by_cases hk:e.kind=1
  ·have t0:(e.kind==1)=true:=by simpa using hk
   obtain⟨q1,hq1⟩:∃q,CI e.name=q:=⟨_,rfl⟩;obtain⟨q2,hq2⟩:∃q,H5 C0 e.name=q:=⟨_,rfl⟩;have HV:=UX (show Br e=(!q1||q2) by unfold Br;rw[hq1,hq2,decide_eq_true hk];rfl);have HNm:=UX (show ∀w',Calls Tryz.prog 103 #[.string e.name] w' fun e' w''=>e'= .returned (.bool q1)∧w''=w' from fun w'=>by have:=Hf e.name w' (by have:=HX1.out.2;omega);rwa[hq1]at this);have HFd:=UX (show ∀v w',Bs w' w'.heap.size 1 v (C0.map fun s=>[Value.string s])→Calls Tryz.prog 104 #[v,.string e.name] w' fun e' w''=>∃r:Int,e'= .returned (.int .i64 r)∧decide (0≤r)=q2∧w''=w' from fun v w' h=>by have:=P0 v C0 e.name w' h (by decide);unfold GN at this;rwa[hq2]at this);have HK:=UX (show ∀w',A5 w1 w'→A5 w1 w'∧w'.cell? ⟨w.heap.size,0,none⟩=some (.int .i64 e.kind)∧w'.cell? ⟨w.heap.size,7,none⟩=some (.string e.name)from fun w' g=>⟨g,(HB.out.grew g).cell 0,(HB.out.grew g).cell 7⟩);clear hk hq1 hq2;rcases q1 with _|_
   ·go_quiet ((go_at_call 103;exact Calls.quiet_of_same (HNm.out _)));go_wp2_with fail;go_meet;exact⟨by rw[HV.out];rfl,V1 (Uv _) _⟩
   go_region_held3 (fun w'=>A5 w1 w'∧w'.cell? ⟨w.heap.size,0,none⟩=some (.int .i64 e.kind)∧w'.cell? ⟨w.heap.size,7,none⟩=some (.string e.name)) (exact HK.out _ (by first|assumption|exact Uy (by assumption)|exact Uy (Uv _)))
    (first|(go_at_call 103;(with_reducible refine(HNm.out _).mono ?_);rintro e3 wy ⟨rfl,rfl⟩)|(go_at_call 105;(with_reducible refine(Md _).mono ?_);rintro e3 wz ⟨rfl,hrd,gz⟩;have hrd2:Bs wz wz.heap.size 1 (.slice (some ⟨w1.heap.size,0,none⟩) 5 5) (C0.map fun s=>[Value.string s]):=hrd;have gz2:A5 w1 wz:=(by first|exact A5.trans (by assumption) gz|exact A5.trans (Uy (Uv _)) gz))|(go_at_call 104;(with_reducible refine(HFd.out _ _ (by assumption)).mono ?_);rintro e4 wy ⟨r,rfl,hr,rfl⟩))
   all_goals(go_wp2_with fail;go_meet)
   all_goals exact⟨by rw[HV.out,←hr];rfl,by assumption⟩
  have t0:(e.kind==1)=false:=by simpa using hk
  have HV:=UX (show Br e=false by unfold Br;rw[Uj hk];rfl);clear hk;go_quiet (fail);go_wp2_with fail;go_meet;exact⟨by rw[HV.out],V1 (Uv _) _⟩
 case rest=>
  obtain⟨rfl,hgx⟩:=hcut;have HGX:=UX hgx;clear hgx c0 c7;cases hbn:Br e with
  |true=>
   have HF:=UX (Iq hbn);clear hbn;go_wp2_with fail;go_ret;exact⟨by rw[HF.out];rfl,HG.out.trans HGX.out⟩
  |false=>
   have HBN:=UX hbn;clear hbn;go_wp2_with fail;go_loopw [3] (fun i wr=>∃j:Nat,j≤nm∧i= .int .i64 (j:Nat)∧A5 wc wr∧∀j' m,j'<j→e.ms[j']? =some m→BA m=true) (fun i _=>nm-(intOf i).toNat)
   case atStart=>exact⟨0,by omega,rfl,Uv _,fun j' m h=>absurd h (by omega)⟩
   case round=>
    obtain⟨j,hj,rfl,hGr,hinv⟩:=hrel;have c8:wr.cell? ⟨w.heap.size,8,none⟩=some (.slice Am nm km):=(HB.out.grew (HGX.out.trans hGr)).cell 8;have HGR:=UX hGr;have HIV:=UX hinv;clear hGr hinv;by_cases hlt:j<nm
    ·obtain⟨m,hm⟩:∃m,e.ms[j]? =some m:=⟨_,Uc (by rw[←HNM.out];exact hlt)⟩;have hgw:=HG.out.trans (HGX.out.trans HGR.out);obtain⟨b,o,hbA,hrg⟩:=(HMS.out.keep (Ua _) hgw.size hgw (fun _ _ h=>h)).at_ (j:=j) (cs:=AL m) (by rw[List.getElem?_map,hm];rfl);subst hbA;have hmem:m∈e.ms:=Uk hm;have HRg:=UX hrg;obtain⟨q,hq⟩:∃q,BA m=q:=⟨_,rfl⟩;have HVM:=UX (fun w'=>KV m (by have:=(HX2.out m hmem).1.2;omega) (by have:=(HX2.out m hmem).2.2;omega) w');rw[hq]at HVM;have HQ:=UX hq;have HMM:=UX hmem;have HM:=UX hm;clear hrg hmem hm hq hgw;rcases q with _|_
     ·have HF:=UX (L3 HMM.out HQ.out);go_wp2_with(first|(refine lM (.tmp 31) HRg.out rM ?_)|(go_at_call 106;(with_reducible refine(HVM.out _).mono ?_);rintro e4 w4 ⟨rfl,k4⟩)|fail);go_ret;exact⟨by rw[HF.out];rfl,HG.out.trans (HGX.out.trans (HGR.out.trans k4))⟩
     go_wp2_with(first|(refine lM (.tmp 31) HRg.out rM ?_)|(go_at_call 106;(with_reducible refine(HVM.out _).mono ?_);rintro e4 w4 ⟨rfl,k4⟩)|fail);go_roundw
     case rel=>exact⟨j+1,by omega,by go_num,HGR.out.trans k4,fun j' m' h1 h2=>by
      by_cases hjj:j'=j
      ·subst hjj;rw[HM.out]at h2;obtain rfl:=Uf h2;exact HQ.out
      exact HIV.out j' m' (by omega) h2⟩
     case measure=>simp[intOf];omega
    obtain rfl:j=nm:=by omega
    have HALL:=UX (show ∀m∈e.ms,BA m=true from fun m hm=>by
     obtain⟨j',hj'⟩:=List.getElem?_of_mem hm;exact HIV.out j' m (by have:=(Uh.1 hj').1;have:=HNM.out;omega) hj')
    generalize wr=wv at*;go_wp2_with fail;go_loopw [4] (fun i wr=>∃k:Nat,k≤nb∧i= .int .i64 (k:Nat)∧A5 wv wr∧∀k',k'<k→MI e.bys k'=true) (fun i _=>nb-(intOf i).toNat)
    case atStart=>exact⟨0,by omega,rfl,Uv _,fun k' h=>absurd h (by omega)⟩
    case round=>
     obtain⟨k,hk,rfl,hGx2,hinv2⟩:=hrel;have HGY:=UX hGx2;have HJV:=UX hinv2;have hgw:A5 w wr:=HG.out.trans (HGX.out.trans (HGR.out.trans hGx2));have HGW:=UX hgw;clear hGx2 hinv2 hgw;by_cases hlt2:k<nb
     ·obtain⟨s,hs⟩:∃s,e.bys[k]? =some s:=⟨_,Uc (by rw[←HNB.out];exact hlt2)⟩;have hrd:∀w',A5 w w'→∃b o,Ab=some ⟨b,o,none⟩∧∀i r,e.bys[i]? =some r→w'.cell? ⟨b,o+i,none⟩=some (.string r):=fun w' g=>by
       obtain⟨A',c',hv,hc',hx'⟩:=HBY.out.keep (Ua _) g.size g (fun _ _ h=>h);injection hv with e1 e2 e3;obtain⟨b,o,hA,hbb,hcell⟩:=hx' (by rw[←e2];omega);refine⟨b,o,e1.trans hA,fun i r hi=>?_⟩;have:=hcell i [.string r] (by rw[List.getElem?_map,hi];rfl) 0 _ rfl;rw[Nat.mul_one]at this;exact this
      obtain⟨b,o,rfl,hcells⟩:=hrd wr HGW.out;have hcell:∀w',A5 wr w'→∀i r,e.bys[i]? =some r→w'.cell? ⟨b,o+i,none⟩=some (.string r):=fun w' g=>by
       obtain⟨b',o',he,h⟩:=hrd w' (HGW.out.trans g);simp only[Ur,Addr.mk.injEq,and_true]at he;obtain⟨rfl,rfl⟩:=he;exact h
      have HC:=UX hcell;have hgb:A5 w1 wr:=HGX.out.trans (HGR.out.trans HGY.out);have HGB:=UX hgb;have c9:wr.cell? ⟨w.heap.size,9,none⟩=some (.slice (some ⟨b,o,none⟩) nb kb):=(HB.out.grew hgb).cell 9;have cs:wr.cell? ⟨b,o+k,none⟩=some (.string s):=hcells k s hs;obtain⟨q,hq⟩:∃q,CI s=q:=⟨_,rfl⟩;have HNm:=UX (fun w'=>Hf s w' (by have:=(HX3.out s (Uk hs)).2;omega));rw[hq]at HNm;have HS:=UX hs;have HQ:=UX hq;have HLT2:=UX (show k<e.bys.length by rw[←HNB.out];exact hlt2);clear hs hq hrd hcells hcell hgb;have hnext:MI e.bys k=true→∀k',k'<k+1→MI e.bys k'=true:=fun h k' hk'=>by
       by_cases e:k'=k
       ·subst e;exact h
       exact HJV.out k' (by omega)
      have HNX:=UX hnext;clear hnext;rcases q with _|_
      ·have HF:=UX (ER HLT2.out (show MI e.bys k=false by
        cases k with
        |zero=>rw[GQ HS.out,HQ.out]
        |succ k'=>
         obtain⟨r,hr⟩:∃r,e.bys[k']? =some r:=⟨_,Uc (by have:=HLT2.out;omega)⟩;rw[GG HS.out hr,HQ.out];rfl))
       go_upto_region 11 with fail;go_quiet ((go_at_call 103;exact Calls.quiet_of_same (HNm.out _)));go_wp2_with fail;go_ret;exact⟨by rw[HF.out];rfl,HGW.out.trans (V1 (Uv _) _)⟩
      rcases k with _|k
      ·have HT:=UX (HNX.out (by rw[GQ HS.out,HQ.out]));have cs0:wr.cell? ⟨b,o,none⟩=some (.string s):=cs;go_upto_region 11 with fail;go_quiet ((go_at_call 103;exact Calls.quiet_of_same (HNm.out _)));go_wp2_with fail;go_roundw
       case rel=>exact⟨0+1,by omega,by go_num,HGY.out.trans (V1 (Uv _) _),HT.out⟩
       case measure=>simp[intOf];omega
      obtain⟨r,hr⟩:∃r,e.bys[k]? =some r:=⟨_,Uc (by have:=HLT2.out;omega)⟩;have hby2:=GG HS.out hr;rw[HQ.out]at hby2;have HR:=UX hr;have dr:wr.cell? ⟨b,o+k,none⟩=some (.string r):=HC.out wr (Uv _) k r hr;obtain⟨x1,hx1⟩:∃x1,Op.bytesLess s.toList r.toList=x1:=⟨_,rfl⟩;obtain⟨x2,hx2⟩:∃x2,(s.toList==r.toList)=x2:=⟨_,rfl⟩;have hle:SK s r=(x1||x2):=by unfold SK;rw[hx1,hx2]
      rw[hle]at hby2;have HBY2:=UX hby2;clear hr hby2 hle;rcases x1 with _|_
      ·rcases x2 with _|_
       ·have HT:=UX (HNX.out HBY2.out);go_upto_region 11 with fail;go_quiet ((go_at_call 103;exact Calls.quiet_of_same (HNm.out _)));go_wp2_with fail;go_wp2_with fail;go_roundw
        case rel=>exact⟨k+1+1,by omega,by go_num,HGY.out.trans (V1 (Uv _) _),HT.out⟩
        case measure=>simp[intOf];omega
       have HF:=UX (ER HLT2.out HBY2.out);go_upto_region 11 with fail;go_quiet ((go_at_call 103;exact Calls.quiet_of_same (HNm.out _)));go_wp2_with fail;go_ret;exact⟨by rw[HF.out];rfl,HGW.out.trans (V1 (Uv _) _)⟩
      have HF:=UX (ER HLT2.out HBY2.out);go_upto_region 11 with fail;go_quiet ((go_at_call 103;exact Calls.quiet_of_same (HNm.out _)));go_wp2_with fail;go_ret;exact⟨by rw[HF.out];rfl,HGW.out.trans (V1 (Uv _) _)⟩
     obtain rfl:k=nb:=by omega
     have c9:wr.cell? ⟨w.heap.size,9,none⟩=some (.slice Ab k kb):=(HB.out.grew (HGX.out.trans (HGR.out.trans HGY.out))).cell 9;have HF:=UX (LZ HBN.out HALL.out (fun j hj=>HJV.out j (by have:=HNB.out;omega)));go_wp2_with fail;go_ret;exact⟨by rw[HF.out];rfl,HGW.out⟩
theorem Jz (e:Ex) (n nm nb:Nat) (hnm:nm=e.ms.length) (hnn:n=e.kids.length) (hnb:nb=e.bys.length):B7 e=
  (if e.kind=0 then decide (e.fn=0∧n=0∧AU e.num e.den=true∧e.window=0∧e.offset=0∧e.name.size=0∧nm=0∧e.k=0∧nb=0)
  else if e.kind=1 then decide (0≤e.fn∧e.fn≤7∧n=0∧e.num=0∧e.den=0∧nb=0)
  else if e.kind=2 then decide (0≤e.fn∧e.fn≤4∧n=1∧e.num=0∧e.den=0∧e.window=0∧e.offset=0∧e.name.size=0∧nm=0)
  else if e.kind=3 then decide (0≤e.fn∧e.fn≤3∧n=2∧e.num=0∧e.den=0∧e.window=0∧e.offset=0∧e.name.size=0∧nm=0∧e.k=0∧nb=0)
  else false):=by
 rw[D4 e n nm nb hnm hnn hnb];unfold Ci DR;rw[←hnm]
 (repeat' split)<;>(try rfl)<;>(rw[decide_eq_decide];simp only[decide_eq_true_eq])<;>grind
theorem LL (e:Ex) (Am Ab A:Option Addr) (nm km nb kb n c:Nat) (hnm:nm=e.ms.length) (hnb:nb=e.bys.length) (hnn:n=e.kids.length) (w:World) (h64:DX e):Calls Tryz.prog 67 #[.agg (A8 e (.slice Am nm km) (.slice Ab nb kb) (.slice A n c)).toArray] w fun e' w'=>e'= .returned (.bool (B7 e))∧A5 w w':=by
 have hb:=Ux w 29 (A8 e (.slice Am nm km) (.slice Ab nb kb) (.slice A n c)).toArray;have hG:=(Uv w).alloc (.cells (A8 e (.slice Am nm km) (.slice Ab nb kb) (.slice A n c)).toArray 29);have HFV:=UX (fun w'=>C7 e.num e.den w' h64.2.2.2.2.2.1 h64.2.2.2.2.2.2);have HL:=UX (Jz e n nm nb hnm hnn hnb);clear h64 hnm hnn hnb;go_enter Tryz.func67,Tryz.ntmps67;go_upto_region 1 with fail;generalize w.alloc (.cells (A8 e (.slice Am nm km) (.slice Ab nb kb) (.slice A n c)).toArray 29)=w1 at*;have c0:w1.cell? ⟨w.heap.size,0,none⟩=some (.int .i64 e.kind):=hb.cell 0;have c1:w1.cell? ⟨w.heap.size,1,none⟩=some (.int .i64 e.fn):=hb.cell 1;have HG:=UX hG;have HB:=UX hb;clear hG hb;by_cases hlo:e.kind<0
 ·have t0:decide (e.kind<0)=true:=by simpa using hlo
  have HV:=UX (show B7 e=false by rw[HL.out,Un (by omega),Un (by omega),Un (by omega),Un (by omega)]);clear hlo;go_wp2_with fail;go_ret;exact⟨by rw[HV.out];rfl,HG.out⟩
 by_cases hhi:3<e.kind
 ·have t0:decide (e.kind<0)=false:=by simpa using hlo
  have t1:decide (3<e.kind)=true:=by simpa using hhi
  have HV:=UX (show B7 e=false by rw[HL.out,Un (by omega),Un (by omega),Un (by omega),Un (by omega)]);clear hlo hhi;go_wp2_with fail;go_ret;exact⟨by rw[HV.out];rfl,HG.out⟩
 by_cases hfn:e.fn<0
 ·have t0:decide (e.kind<0)=false:=by simpa using hlo
  have t1:decide (3<e.kind)=false:=by simpa using hhi
  have t2:decide (e.fn<0)=true:=by simpa using hfn
  have HV:=UX (show B7 e=false by rw[HL.out];(repeat' split)<;>(try rfl)<;>exact Uj (by omega));clear hlo hhi hfn;go_wp2_with fail;go_ret;exact⟨by rw[HV.out];rfl,HG.out⟩
 have t2:decide (e.fn<0)=false:=by simpa using hfn
 have HF0:=UX (show 0≤e.fn by omega);have hkk:e.kind=0∨e.kind=1∨e.kind=2∨e.kind=3:=by omega
 clear hlo hhi hfn;have HB3F:=UX fun w' (g:A5 w1 w')=>HB.out.grew g
 rcases hkk with hk|hk|hk|hk
 all_goals
  have HK:=UX hk;rw[hk]at c0;clear hk;go_upto_region 5 with fail;have hF:=Ux w1 3 #[.int .i64 1,.int .i64 8,.int .i64 5,.int .i64 4];have hD:=Ux (w1.alloc (.cells #[.int .i64 1,.int .i64 8,.int .i64 5,.int .i64 4] 3)) 3 #[.int .i64 0,.int .i64 0,.int .i64 1,.int .i64 2];have hF2:=hF.alloc (.cells #[.int .i64 0,.int .i64 0,.int .i64 1,.int .i64 2] 3);have hG3:A5 w1 ((w1.alloc (.cells #[.int .i64 1,.int .i64 8,.int .i64 5,.int .i64 4] 3)).alloc (.cells #[.int .i64 0,.int .i64 0,.int .i64 1,.int .i64 2] 3)):=((Uv w1).alloc _).alloc _;rw[show(w1.alloc (.cells #[.int .i64 1,.int .i64 8,.int .i64 5,.int .i64 4] 3)).heap.size=w1.heap.size+1 by simp]at hD;generalize (w1.alloc (.cells #[.int .i64 1,.int .i64 8,.int .i64 5,.int .i64 4] 3)).alloc (.cells #[.int .i64 0,.int .i64 0,.int .i64 1,.int .i64 2] 3)=w3 at*;have HB3:=UX (HB3F.out w3 hG3);have HG3:=UX (HG.out.trans hG3);clear c0 c1 HB3F;have e0:w3.cell? ⟨w1.heap.size,0,none⟩=some (.int .i64 1):=hF2.cell 0;have e1:w3.cell? ⟨w1.heap.size+1,0,none⟩=some (.int .i64 0):=hD.cell 0;have e2:w3.cell? ⟨w1.heap.size,1,none⟩=some (.int .i64 8):=hF2.cell 1;have e3:w3.cell? ⟨w1.heap.size+1,1,none⟩=some (.int .i64 0):=hD.cell 1;have e4:w3.cell? ⟨w1.heap.size,2,none⟩=some (.int .i64 5):=hF2.cell 2;have e5:w3.cell? ⟨w1.heap.size+1,2,none⟩=some (.int .i64 1):=hD.cell 2;have e6:w3.cell? ⟨w1.heap.size,3,none⟩=some (.int .i64 4):=hF2.cell 3;have e7:w3.cell? ⟨w1.heap.size+1,3,none⟩=some (.int .i64 2):=hD.cell 3;clear hF hF2 hD hG3;have c0:w3.cell? ⟨w.heap.size,0,none⟩=some (.int .i64 e.kind):=HB3.out.cell 0;rw[HK.out]at c0;have c1:w3.cell? ⟨w.heap.size,1,none⟩=some (.int .i64 e.fn):=HB3.out.cell 1;have c2:w3.cell? ⟨w.heap.size,2,none⟩=some (.int .i64 e.window):=HB3.out.cell 2;have c3:w3.cell? ⟨w.heap.size,3,none⟩=some (.int .i64 e.offset):=HB3.out.cell 3;have c4:w3.cell? ⟨w.heap.size,4,none⟩=some (.int .i64 e.k):=HB3.out.cell 4;have c5:w3.cell? ⟨w.heap.size,5,none⟩=some (.int .i64 e.num):=HB3.out.cell 5;have c6:w3.cell? ⟨w.heap.size,6,none⟩=some (.int .i64 e.den):=HB3.out.cell 6;have c7:w3.cell? ⟨w.heap.size,7,none⟩=some (.string e.name):=HB3.out.cell 7;have c8:w3.cell? ⟨w.heap.size,8,none⟩=some (.slice Am nm km):=HB3.out.cell 8;have c9:w3.cell? ⟨w.heap.size,9,none⟩=some (.slice Ab nb kb):=HB3.out.cell 9;have c10:w3.cell? ⟨w.heap.size,10,none⟩=some (.slice A n c):=HB3.out.cell 10
 all_goals first
  |(have hq:Hid (e.kind=0):=HK;clear hq;refine if hf:e.fn<1 then if hn:n=0 then if hv:AU e.num e.den=true then if hw:e.window=0 then if ho:e.offset=0 then if hs:e.name.size=0 then if hm:nm=0 then if hk:e.k=0 then if hb:nb=0 then ?_ else ?_ else ?_ else ?_ else ?_ else ?_ else ?_ else ?_ else ?_ else ?_;all_goals(first|have f0:decide (1≤e.fn)=false:=Uj (by omega)|have f0:decide (1≤e.fn)=true:=decide_eq_true (by omega));all_goals(try first|have f1:((n:Int)==0)=true:=by rw[Ud];omega|have f1:((n:Int)==0)=false:=by rw[UY];omega);all_goals(try first|have f1':((n:Int) !=0)=false:=by rw[bne,f1];rfl|have f1':((n:Int) !=0)=true:=by rw[bne,f1];rfl))
  |(have hq:Hid (e.kind=1):=HK;clear hq;refine if hf:e.fn<8 then if hn:n=0 then if hx:e.num=0 then if hy:e.den=0 then if hb:nb=0 then ?_ else ?_ else ?_ else ?_ else ?_ else ?_;all_goals(first|have f0:decide (8≤e.fn)=false:=Uj (by omega)|have f0:decide (8≤e.fn)=true:=decide_eq_true (by omega));all_goals(try first|have f1:((n:Int)==0)=true:=by rw[Ud];omega|have f1:((n:Int)==0)=false:=by rw[UY];omega);all_goals(try first|have f1':((n:Int) !=0)=false:=by rw[bne,f1];rfl|have f1':((n:Int) !=0)=true:=by rw[bne,f1];rfl))
  |(have hq:Hid (e.kind=2):=HK;clear hq;refine if hf:e.fn<5 then if hn:n=1 then if hx:e.num=0 then if hy:e.den=0 then if hw:e.window=0 then if ho:e.offset=0 then if hs:e.name.size=0 then if hm:nm=0 then ?_ else ?_ else ?_ else ?_ else ?_ else ?_ else ?_ else ?_ else ?_;all_goals(first|have f0:decide (5≤e.fn)=false:=Uj (by omega)|have f0:decide (5≤e.fn)=true:=decide_eq_true (by omega));all_goals(try first|have f1:((n:Int)==1)=true:=by rw[Ud];omega|have f1:((n:Int)==1)=false:=by rw[UY];omega);all_goals(try first|have f1':((n:Int) !=1)=false:=by rw[bne,f1];rfl|have f1':((n:Int) !=1)=true:=by rw[bne,f1];rfl))
  |(have hq:Hid (e.kind=3):=HK;clear hq;refine if hf:e.fn<4 then if hn:n=2 then if hx:e.num=0 then if hy:e.den=0 then if hw:e.window=0 then if ho:e.offset=0 then if hs:e.name.size=0 then if hm:nm=0 then if hk:e.k=0 then if hb:nb=0 then ?_ else ?_ else ?_ else ?_ else ?_ else ?_ else ?_ else ?_ else ?_ else ?_ else ?_;all_goals(first|have f0:decide (4≤e.fn)=false:=Uj (by omega)|have f0:decide (4≤e.fn)=true:=decide_eq_true (by omega));all_goals(try first|have f1:((n:Int)==2)=true:=by rw[Ud];omega|have f1:((n:Int)==2)=false:=by rw[UY];omega);all_goals(try first|have f1':((n:Int) !=2)=false:=by rw[bne,f1];rfl|have f1':((n:Int) !=2)=true:=by rw[bne,f1];rfl))
 all_goals
  try first|have fx:(e.num==0)=true:=by rw[Ud];omega|have fx:(e.num==0)=false:=by rw[UY];omega
  try first|have gx:(e.num !=0)=false:=by rw[bne,fx];rfl|have gx:(e.num !=0)=true:=by rw[bne,fx];rfl
  try first|have fy:(e.den==0)=true:=by rw[Ud];omega|have fy:(e.den==0)=false:=by rw[UY];omega
  try first|have gy:(e.den !=0)=false:=by rw[bne,fy];rfl|have gy:(e.den !=0)=true:=by rw[bne,fy];rfl
  try first|have fw:(e.window==0)=true:=by rw[Ud];omega|have fw:(e.window==0)=false:=by rw[UY];omega
  try first|have gw:(e.window !=0)=false:=by rw[bne,fw];rfl|have gw:(e.window !=0)=true:=by rw[bne,fw];rfl
  try first|have fo:(e.offset==0)=true:=by rw[Ud];omega|have fo:(e.offset==0)=false:=by rw[UY];omega
  try first|have go:(e.offset !=0)=false:=by rw[bne,fo];rfl|have go:(e.offset !=0)=true:=by rw[bne,fo];rfl
  try first|have fk:(e.k==0)=true:=by rw[Ud];omega|have fk:(e.k==0)=false:=by rw[UY];omega
  try first|have gk:(e.k !=0)=false:=by rw[bne,fk];rfl|have gk:(e.k !=0)=true:=by rw[bne,fk];rfl
  try first|have fb:((nb:Int)==0)=true:=by rw[Ud];omega|have fb:((nb:Int)==0)=false:=by rw[UY];omega
  try first|have gb:((nb:Int) !=0)=false:=by rw[bne,fb];rfl|have gb:((nb:Int) !=0)=true:=by rw[bne,fb];rfl
  try first|have fv:AU e.num e.den=true:=hv|have fv:AU e.num e.den=false:=by simpa using hv
  try first|have fs:=J1 hs|have fs:=Jl hs
  try first|have gs:(!e.name.toList.isEmpty)=false:=by rw[fs];rfl|have gs:(!e.name.toList.isEmpty)=true:=by rw[fs];rfl
  try first|have fm:decide (0<nm)=false:=Uj (by omega)|have fm:decide (0<nm)=true:=decide_eq_true (by omega)
  have hk:=HK.out;have h0:=HF0.out
  first|have HV:=UX (show B7 e=false by rw[HL.out];clear HB HB3 HG HG3;first|((repeat' split)<;>first|omega|rfl|exact Uj (by omega)|exact Uj (by grind))|fail)|have HV:=UX (show B7 e=true by rw[HL.out];clear HB HB3 HG HG3;(repeat' split)<;>first|omega|exact decide_eq_true (by omega)|exact decide_eq_true (by grind))
  clear hk h0 hf
  try clear hn
  try clear hv
  try clear hx
  try clear hy
  try clear hw
  try clear ho
  try clear hs
  try clear hm
  try clear hk
  try clear hb
  go_quiet (fail);have hg3:A5 w3 (w3.drewN nq):=V1 (Uv _) _;go_wp2_with(first|(go_at_call 102;refine(HFV.out _).mono ?_;rintro e3 w4 ⟨rfl,k4⟩;have k4:=hg3.trans k4;have B4:=HB3.out.grew k4;have d0:w4.cell? ⟨w.heap.size,0,none⟩=some (.int .i64 0):=(B4.cell 0).trans (by show some (Value.int .i64 e.kind)=_;rw[HK.out]);have d2:w4.cell? ⟨w.heap.size,2,none⟩=some (.int .i64 e.window):=B4.cell 2;have d3:w4.cell? ⟨w.heap.size,3,none⟩=some (.int .i64 e.offset):=B4.cell 3;have d4:w4.cell? ⟨w.heap.size,4,none⟩=some (.int .i64 e.k):=B4.cell 4;have d7:w4.cell? ⟨w.heap.size,7,none⟩=some (.string e.name):=B4.cell 7;have d8:w4.cell? ⟨w.heap.size,8,none⟩=some (.slice Am nm km):=B4.cell 8;have d9:w4.cell? ⟨w.heap.size,9,none⟩=some (.slice Ab nb kb):=B4.cell 9));go_ret
  first|exact⟨by(try rw[HV.out]);rfl,HG3.out.trans hg3⟩|exact⟨by(try rw[HV.out]);rfl,HG3.out.trans k4⟩
end Go.Proofs.YtkclnhpofkaclaaGreatDoor
