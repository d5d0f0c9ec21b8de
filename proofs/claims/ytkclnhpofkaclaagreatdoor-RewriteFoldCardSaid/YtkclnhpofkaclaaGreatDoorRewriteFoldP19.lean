/- What the card of the law stands on: RCheck, Count, Depth, TValid, RFoldT, Mul64, Prod. -/
import Derived.Test.YtkclnhpofkaclaaGreatDoorRewriteFoldP01
import Derived.Test.YtkclnhpofkaclaaGreatDoorRewriteFoldP18
import Derived.Deep.DeepCutAuto
import Derived.Test.YtkclnhpofkaclaaGreatDoorRewriteFoldP10
import Derived.Test.YtkclnhpofkaclaaGreatDoorRewriteFoldP13
import Derived.Test.YtkclnhpofkaclaaGreatDoorRewriteFoldP11
import Derived.Test.YtkclnhpofkaclaaGreatDoorRewriteFoldP15
import Derived.Shelf.Bits.Mul64
import Derived.Test.YtkclnhpofkaclaaGreatDoorRewriteFoldP05
set_option maxRecDepth 100000
set_option maxHeartbeats 12800000
set_option linter.unusedVariables false
set_option linter.unusedSimpArgs false
namespace Go.Proofs.YtkclnhpofkaclaaGreatDoor
open Go.RowKit Pl
theorem Hl:∀(k:Nat) (e:Ex),AD e≤k→k≤1000000→Aw B1 e→∀(w:World) (cs:List Value),BC w w.heap.size e cs→
  Calls Tryz.prog 41 #[.agg cs.toArray] w fun e' w'=>e'= .returned (.int .i64 (BF e))∧A5 w w'
 |0,e,h,_,_,_,_,_=>absurd (AZ e) (by omega)
 |k+1,e,hk,hk2,hok,w,cs,hr=>by
  obtain⟨vm,vb,vk,rfl,hms,hby,hT⟩:=hr.open_;obtain⟨Am,nm,km,rfl,hnm⟩:∃A n c,vm= .slice A n c∧n=e.ms.length:=by obtain⟨A,c,h, -⟩:=hms;exact⟨A,_,c,h,by simp⟩
  obtain⟨Ab,nb,kb,rfl,hnb⟩:∃A n c,vb= .slice A n c∧n=e.bys.length:=by obtain⟨A,c,h, -⟩:=hby;exact⟨A,_,c,h,by simp⟩
  obtain⟨A,n,c,rfl,hn, -⟩:=hT.slice;have hne:=Ao e;have hkl:=B9 e.kids;have hnb':n≤1000000:=by omega
  have hnml:nm≤1000:=by have:=hok.top.2.2.2.2.1;omega
  have hnbl:nb≤1000:=by have:=hok.top.2.2.2.2.2;omega
  have HIH:=UX (fun(e':Ex) (w':World) (cs:List Value) (h1:e'∈e.kids) (h2:BC w' w'.heap.size e' cs)=>Hl k e' (by have:=AT h1;omega) (by omega) (hok.kid h1) w' cs h2);have HT:=UX hT;have HN:=UX hn;have HE:=UX (Gv e);obtain⟨q1,hq1⟩:∃q,B7 e=q:=⟨_,rfl⟩;obtain⟨q2,hq2⟩:∃q,C3 e=q:=⟨_,rfl⟩;obtain⟨q3,hq3⟩:∃q,AJ e=q:=⟨_,rfl⟩;have HSh:=UX (fun w'=>LL e Am Ab A nm km nb kb n c hnm hnb hn w' hok.top.1);have HNd:=UX (fun w' (g:A5 w w')=>MB e Am Ab A nm km nb kb n c hnm hnb w' (hms.keep (Ua _) g.size g (fun _ _ h=>h)) (hby.keep (Ua _) g.size g (fun _ _ h=>h)) hok.top.2);have HRg:=UX (fun(_:q1=true) w'=>Ll e (.slice Am nm km) (.slice Ab nb kb) (.slice A n c) w');rw[hq1]at HSh;rw[hq2]at HNd;rw[hq3]at HRg;have HV:=UX (show Bh e=if q1=false then 1 else if q2=false then 8 else if 8<nm∨8<nb then 4 else if q3=false then 5 else 0 by unfold Bh;rw[hq1,hq2,hq3,hnm,hnb]);have hb1:=Ux w 29 (A8 e (.slice Am nm km) (.slice Ab nb kb) (.slice A n c)).toArray;have hG:=(Uv w).alloc (.cells (A8 e (.slice Am nm km) (.slice Ab nb kb) (.slice A n c)).toArray 29);clear hr hms hby hT hn hne hkl hk hk2 hok hq1 hq2 hq3 hnm hnb;go_enter Tryz.func41,Tryz.ntmps41;go_upto_region 1 with fail;generalize w.alloc (.cells (A8 e (.slice Am nm km) (.slice Ab nb kb) (.slice A n c)).toArray 29)=w1 at*;have HG:=UX hG;have hs1:Hid (w.heap.size<w1.heap.size):=UX hb1.lt;clear hG;rcases q1 with _|_
  ·have HF:=UX (show BF e=1 by rw[HE.out,HV.out];rfl);go_wp2_with(first|(refine lN (.tmp 1) hb1 rX ?_)|(go_at_call 67;(with_reducible refine(HSh.out _).mono ?_);rintro e3 w3 ⟨rfl,k3⟩)|fail);go_ret;exact⟨by rw[HF.out];rfl,HG.out.trans k3⟩
  replace HRg:=UX (HRg.out rfl);go_upto_region 3 with(first|(refine lN (.tmp 1) hb1 rX ?_)|(go_at_call 67;(with_reducible refine(HSh.out _).mono ?_);rintro e3 w3 ⟨rfl,k3⟩)|fail);have hb3:=hb1.grew k3;have HG3:=UX (HG.out.trans k3);clear hb1 k3 HSh;rcases q2 with _|_
  ·have HF:=UX (show BF e=8 by rw[HE.out,HV.out];rfl);go_wp2_with(first|(refine lN (.tmp 1) hb3 rX ?_)|(go_at_call 68;(with_reducible refine(HNd.out _ HG3.out).mono ?_);rintro e4 w4 ⟨rfl,k4⟩)|fail);go_ret;exact⟨by rw[HF.out];rfl,HG3.out.trans k4⟩
  go_upto_region 5 with(first|(refine lN (.tmp 1) hb3 rX ?_)|(go_at_call 68;(with_reducible refine(HNd.out _ HG3.out).mono ?_);rintro e4 w4 ⟨rfl,k4⟩)|fail);have hb4:=hb3.grew k4;have HG4:=UX (HG3.out.trans k4);clear hb3 k4 HNd;have c8:w4.cell? ⟨w.heap.size,8,none⟩=some (.slice Am nm km):=hb4.cell 8;have c9:w4.cell? ⟨w.heap.size,9,none⟩=some (.slice Ab nb kb):=hb4.cell 9;by_cases hm8:8<nm
  ·have t8:decide ((8:Int)<(nm:Int))=true:=by simp;omega
   have HF:=UX (show BF e=4 by rw[HE.out,show Bh e=4 by rw[HV.out,Un (by simp),Un (by simp),Uo (.inl hm8)]];rfl);clear hm8;go_wp2_with fail;go_ret;exact⟨by rw[HF.out];rfl,HG4.out⟩
  have t8:decide ((8:Int)<(nm:Int))=false:=by simp;omega
  by_cases hb8:8<nb
  ·have t9:decide ((8:Int)<(nb:Int))=true:=by simp;omega
   have HF:=UX (show BF e=4 by rw[HE.out,show Bh e=4 by rw[HV.out,Un (by simp),Un (by simp),Uo (.inr hb8)]];rfl);clear hm8 hb8;go_wp2_with fail;go_ret;exact⟨by rw[HF.out];rfl,HG4.out⟩
  have t9:decide ((8:Int)<(nb:Int))=false:=by simp;omega
  have HN8:=UX (show ¬(8<nm∨8<nb) by omega);clear hm8 hb8;go_upto_region 7 with fail;clear c8 c9;rcases q3 with _|_
  ·have HF:=UX (show BF e=5 by rw[HE.out,show Bh e=5 by rw[HV.out,Un (by simp),Un (by simp),Un HN8.out,Uo rfl]];rfl);go_wp2_with(first|(refine lN (.tmp 1) hb4 rX ?_)|(go_at_call 69;(with_reducible refine(HRg.out _).mono ?_);rintro e5 w5 ⟨rfl,k5⟩)|fail);go_ret;exact⟨by rw[HF.out];rfl,HG4.out.trans k5⟩
  have HF:=UX (show BF e=BM e.kids by rw[HE.out,show Bh e=0 by rw[HV.out,Un (by simp),Un (by simp),Un HN8.out,Un (by simp)]];rfl);go_upto_region 9 with(first|(refine lN (.tmp 1) hb4 rX ?_)|(go_at_call 69;(with_reducible refine(HRg.out _).mono ?_);rintro e5 w5 ⟨rfl,k5⟩)|fail);have HB5:=UX (hb4.grew k5);have HG5:=UX (HG4.out.trans k5);clear hb4 k5 HRg HV HN8 HE;go_wp2_with fail;go_loopw [3,4] (fun i _ wr=>∃j:Nat,j≤n∧i= .int .i64 (j:Nat)∧A5 w5 wr∧BM (e.kids.take j)=0) (fun i _ _=>n-(intOf i).toNat)
  case atStart=>exact⟨0,by omega,rfl,Uv _,rfl⟩
  case round=>
   obtain⟨j,hj,rfl,hGr,hz⟩:=hrel;have HZ:=UX hz;have HGR:=UX hGr;have c10:wr.cell? ⟨w.heap.size,10,none⟩=some (.slice A n c):=(HB5.out.grew hGr).cell 10;clear hz hGr;by_cases hlt:j<n
   ·have hjl:j<e.kids.length:=by rw[←HN.out];exact hlt
    obtain⟨e',he'⟩:∃e',e.kids[j]? =some e':=⟨_,Uc hjl⟩;have hmem:e'∈e.kids:=Uk he';obtain⟨b,o,cs,hA,hb,hrg,hre⟩:=(HT.out.grew (HG5.out.trans HGR.out)).at_ he';subst hA;obtain⟨vm',vb',vk',hcs,hm',hy',hT'⟩:=hre.open_;subst hcs;obtain⟨A1,n1,c1,rfl⟩:∃A n c,vm'= .slice A n c:=by obtain⟨A,c,h, -⟩:=hm';exact⟨A,_,c,h⟩
    obtain⟨A2,n2,c2,rfl⟩:∃A n c,vb'= .slice A n c:=by obtain⟨A,c,h, -⟩:=hy';exact⟨A,_,c,h⟩
    obtain⟨A3,n3,c3,rfl, -⟩:=hT'.slice;obtain⟨q,hq⟩:∃q,BF e'=q:=⟨_,rfl⟩;have HI:=UX (fun w' (g:A5 wr w')=>HIH.out e' w' _ hmem (hre.grew g));rw[hq]at HI;have HSn:=UX (show BM (e.kids.take (j+1))=q by rw[Ga he' HZ.out,hq]);have HRk:=UX hrg;have g0:=Uv wr;clear hjl he' hmem hrg hre hq hm' hy' hT';by_cases hq0:q=0
    ·subst hq0;have HSn:=HSn;go_wp2_with(first|(refine lM (.tmp 34) HRk.out rX ?_)|(go_at_call 41;(with_reducible refine(HI.out _ g0).mono ?_);rintro e7 w7 ⟨rfl,k7⟩)|fail);go_roundw
     case rel=>exact⟨j+1,by omega,by go_num,HGR.out.trans k7,HSn.out⟩
     case measure=>simp[intOf];omega
    have t1:(q==0)=false:=by rw[UY];exact hq0
    have t2:(q !=0)=true:=by rw[bne,t1];rfl
    have HFF:=UX (show BF e=q by rw[HF.out,Fg (by rw[HSn.out];exact hq0),HSn.out]);clear hq0;go_wp2_with(first|(refine lM (.tmp 34) HRk.out rX ?_)|(go_at_call 41;(with_reducible refine(HI.out _ g0).mono ?_);rintro e7 w7 ⟨rfl,k7⟩)|fail);go_ret;exact⟨by rw[HFF.out];rfl,(HG5.out.trans HGR.out).trans k7⟩
   obtain rfl:j=n:=by omega
   have HFF:=UX (show BF e=0 by rw[HF.out,←HZ.out,List.take_of_length_le (by rw[←HN.out];exact Ua _)]);go_wp2_with fail;go_ret;exact⟨by rw[HFF.out];rfl,HG5.out.trans HGR.out⟩
theorem T4 (e:Ex) (dp:Nat) (l:Int) (h0:0≤l) (h1:l≤200): -1≤ET e dp l∧ET e dp l≤200:=by
 obtain⟨h2,h3⟩:=(Gb (AD e)).1 e dp l (Ua _) h0;by_cases h:((AD e:Nat):Int)≤l∧dp+Ae e≤13
 ·rw[h2 h];omega
 rw[h3 h];omega
theorem O4 (es:List Ex) (dp:Nat) (l:Int) (h0: -1≤l) (h1:l≤200): -1≤Bi es dp l∧Bi es dp l≤200:=by
 by_cases hl:l<0
 ·rw[Dk hl];omega
 obtain⟨h2,h3⟩:=(Gb (AO es+1)).2 es dp l (by omega) (by omega);by_cases h:((AO es:Nat):Int)≤l∧dp+AY es≤13∨es=[]
 ·rw[h2 h];rcases h with h|rfl
  ·omega
  simp[AO];omega
 rw[h3 h];omega
theorem JJ:∀(k:Nat) (e:Ex),AD e≤k→k≤1000000→∀(w:World) (B0 g dp:Nat) (l:Int) (cs:List Value),BC w B0 e cs→B0≤g→dp≤13→0≤l→l≤200→AK w g 3 #[.int .i64 l]→
  Calls Tryz.prog 51 #[.agg cs.toArray,.int .i64 (dp:Nat),.pointer (some ⟨g,0,none⟩)] w fun e' w'=>e'= .returned (.tuple #[])∧AK w' g 3 #[.int .i64 (ET e dp l)]∧A4 (fun i=>i=g) w w'
 |0,e,h,_,_,_,_,_,_,_,_,_,_,_,_,_=>absurd (AZ e) (by omega)
 |k+1,e,hk,hk2,w,B0,g,dp,l,cs,hr,hB0,hdp,hl0,hl1,hg=>by
  obtain⟨vm,vb,vk,rfl, -, -,hT⟩:=hr.open_;have hne:=Ao e;have hkl:=B9 e.kids;obtain⟨A,n,c,rfl,hn, -⟩:=hT.slice;have HIH:=UX (fun(e':Ex) (h1:e'∈e.kids)=>JJ k e' (by have:=AT h1;omega) (by omega));have hgl:=hg.lt;have HT:=UX hT;have HN:=UX hn;have hbx:=Ux w 29 (A8 e vm vb (.slice A n c)).toArray;have hG:=(Uv w).alloc (.cells (A8 e vm vb (.slice A n c)).toArray 29);have hg1:=hg.alloc (.cells (A8 e vm vb (.slice A n c)).toArray 29);have hnb:n≤1000000:=by omega
  have HC:=UX (NJ e dp l);have HB0:=UX hB0;have HGL:=UX hgl;clear hr hT hn hne hkl hk hk2 hB0 hgl;go_enter Tryz.func51,Tryz.ntmps51;go_upto_region 1 with fail;generalize w.alloc (.cells (A8 e vm vb (.slice A n c)).toArray 29)=w1 at*;have HBx:=UX hbx;have HG:=UX hG;clear hbx hG;have a0:w1.cell? ⟨g,0,none⟩=some (.int .i64 l):=hg1.cell 0;have a1:w1.frozen? ⟨g,0,none⟩=false:=hg1.frozen 0;have hd1:AK (w1.setCell ⟨g,0,none⟩ (.int .i64 (l-1))) g 3 #[.int .i64 (l-1)]:=hg1.set_ 0 _;have kd1:A4 (fun i=>i=g) w1 (w1.setCell ⟨g,0,none⟩ (.int .i64 (l-1))):=V0 (S:=fun i=>i=g) (p:=⟨g,0,none⟩) (Uz _ w1) (.inl rfl) _;have HG1:=UX hg1;clear hg1;go_upto_region 2 with fail;generalize w1.setCell ⟨g,0,none⟩ (.int .i64 (l-1))=w2 at*;clear a0 a1;have a0:w2.cell? ⟨g,0,none⟩=some (.int .i64 (l-1)):=hd1.cell 0;have a1:w2.frozen? ⟨g,0,none⟩=false:=hd1.frozen 0;have hbx2:=HBx.out.keep kd1 (by have:=HGL.out;omega);by_cases h12:12<dp
  ·have t12:decide ((12:Int)<(dp:Int))=true:=by simp;omega
   have he1:AK (w2.setCell ⟨g,0,none⟩ (.int .i64 (-1))) g 3 #[.int .i64 (-1)]:=hd1.set_ 0 _;have ke1:A4 (fun i=>i=g) w1 (w2.setCell ⟨g,0,none⟩ (.int .i64 (-1))):=V0 (S:=fun i=>i=g) (p:=⟨g,0,none⟩) kd1 (.inl rfl) _;have hbx3:=hbx2.far (p:=⟨g,0,none⟩) (by have:=HGL.out;simp;omega) (.int .i64 (-1));have HC2:=UX (show ET e dp l= -1 by rw[HC.out,Uo h12,Dk (by omega)]);clear h12 hbx2 hd1 kd1;go_upto_region 4 with fail;generalize w2.setCell ⟨g,0,none⟩ (.int .i64 (-1))=w3 at*;clear a0 a1;have a0:w3.cell? ⟨g,0,none⟩=some (.int .i64 (-1)):=he1.cell 0;have a2:w3.cell? ⟨w.heap.size,10,none⟩=some (.slice A n c):=hbx3.cell 10;clear hbx3;go_wp2_with fail;go_loopw [6] (fun i wr=>i= .int .i64 0∧wr=w3) (fun i _=>0)
   case atStart=>exact⟨rfl,rfl⟩
   case round=>
    obtain⟨rfl,rfl⟩:=hrel;by_cases hn0:0<n
    ·have t0:decide ((0:Int)<(n:Int))=true:=by simp;omega
     go_wp2_with fail;go_end0;exact⟨rfl,by rw[HC2.out];exact he1,Uw (V2 HG.out) ke1 fun i hi e=>e⟩
    have t0:decide ((0:Int)<(n:Int))=false:=by simp;omega
    go_wp2_with fail;go_end0;exact⟨rfl,by rw[HC2.out];exact he1,Uw (V2 HG.out) ke1 fun i hi e=>e⟩
  have t12:decide ((12:Int)<(dp:Int))=false:=by simp;omega
  have HC2:=UX (show ET e dp l=Bi e.kids (dp+1) (l-1) by rw[HC.out,Un h12]);have HD:=UX h12;have HBX2:=UX hbx2;have HD1:=UX hd1;have HK1:=UX kd1;clear h12 hbx2 hd1 kd1;go_wp2_with fail;go_loopw [6] (fun i wr=>∃(j:Nat),j≤n∧i= .int .i64 (j:Nat)∧AK wr g 3 #[.int .i64 (Bi (e.kids.take j) (dp+1) (l-1))]∧A4 (fun i=>i=g) w1 wr) (fun i _=>n-(intOf i).toNat)
  case atStart=>exact⟨0,by omega,rfl,HD1.out,HK1.out⟩
  case round=>
   obtain⟨j,hj,rfl,hb,hkr⟩:=hrel;obtain⟨hz0,hz1⟩:=O4 (e.kids.take j) (dp+1) (l-1) (by omega) (by omega);obtain⟨z,hz⟩:∃z,Bi (e.kids.take j) (dp+1) (l-1)=z:=⟨_,rfl⟩;rw[hz]at hb hz0 hz1;have HZ:=UX hz;have c10:wr.cell? ⟨w.heap.size,10,none⟩=some (.slice A n c):=(HBx.out.keep hkr (by have:=HGL.out;omega)).cell 10;have a0:wr.cell? ⟨g,0,none⟩=some (.int .i64 z):=hb.cell 0;have HB:=UX hb;have HKR:=UX hkr;clear hz hb hkr;by_cases hlt:j<n
   ·by_cases hzn:z<0
    ·have t0:decide ((0:Int)≤z)=false:=by simp;omega
     have HF:=UX (show ET e dp l=z by rw[HC2.out,Lx (by rw[HZ.out];exact hzn),HZ.out]);clear hzn;go_wp2_with fail;go_end0;exact⟨rfl,by rw[HF.out];exact HB.out,Uw (V2 HG.out) HKR.out fun i hi e=>e⟩
    have t0:decide ((0:Int)≤z)=true:=by simp;omega
    have hjl:j<e.kids.length:=by rw[←HN.out];exact hlt
    obtain⟨e',he'⟩:∃e',e.kids[j]? =some e':=⟨_,Uc hjl⟩;have hmem:e'∈e.kids:=Uk he';have hTw:Gw wr B0 (.slice A n c) e.kids:=HT.out.keep (by have:=HB0.out;have:=HGL.out;omega) (Ua _) (Uw (S:=fun i=>i=g) (V2 HG.out) HKR.out fun i hi e=>e) (fun i hi e=>by have:=HB0.out;omega);obtain⟨b,o,cs,rfl,hb,hrg,hre⟩:=hTw.at_ he';obtain⟨vm',vb',vk',hcs, -⟩:=hre.open_;subst hcs;have hI:=HIH.out e' hmem wr B0 g (dp+1) z _ hre (by have:=HB0.out;omega) (by have:=HD.out;omega) (by omega) hz1 HB.out;rw[show(((dp+1:Nat)):Int)=(dp:Int)+1 by omega]at hI;have HI:=UX hI;have HSn:=UX (show Bi (e.kids.take (j+1)) (dp+1) (l-1)=ET e' (dp+1) z by rw[Mi he' (by rw[HZ.out];omega),HZ.out]);have HRg:=UX hrg;have hd14:dp≤12:=by have:=HD.out;omega
    clear hjl he' hmem hTw hrg hre hzn hI;go_wp2_with(first|(refine lM (.tmp 32) HRg.out rX ?_)|fail);refine HI.out.mono ?_;rintro e2 w3 ⟨rfl,hb3,k3⟩;have HB3:=UX hb3;have HK3:=UX (Uw HKR.out k3 fun i hi e=>e);clear hb3 k3 HI c10 a0;go_wp2_with fail;go_roundw
    case rel=>exact⟨j+1,by omega,by go_num,by rw[HSn.out];exact HB3.out,HK3.out⟩
    case measure=>simp[intOf];omega
   obtain rfl:j=n:=by omega
   have HF:=UX (show ET e dp l=z by rw[HC2.out,←HZ.out,List.take_of_length_le (by rw[←HN.out];exact Ua _)]);go_wp2_with fail;go_end0;exact⟨rfl,by rw[HF.out];exact HB.out,Uw (V2 HG.out) HKR.out fun i hi e=>e⟩
theorem L9 (e:Ex) (hn:AD e≤1000000) (w:World) (cs:List Value) (hr:BC w w.heap.size e cs):
  Calls Tryz.prog 29 #[.agg cs.toArray] w fun e' w'=>e'= .returned (.bool (decide (0≤ET e 1 200)))∧A5 w w':=by
 obtain⟨vm,vb,vk,rfl, -⟩:=hr.open_;have hb1:=Ux w 29 (A8 e vm vb vk).toArray;have hG:=(Uv w).alloc (.cells (A8 e vm vb vk).toArray 29);have hs1:(w.alloc (.cells (A8 e vm vb vk).toArray 29)).heap.size=w.heap.size+1:=by simp
 obtain⟨z,hz⟩:∃z,ET e 1 200=z:=⟨_,rfl⟩;have HR:=UX hr;have HS:=UX hs1;have HN:=UX hn;have HZ:=UX hz;rw[hz];clear hr hn hz;go_enter Tryz.func29,Tryz.ntmps29;go_upto_region 1 with fail;generalize w.alloc (.cells (A8 e vm vb vk).toArray 29)=w1 at*;have hI2:=Ux w1 3 #[.int .i64 200];have hG2:A5 w1 (w1.alloc (.cells #[.int .i64 200] 3)):=(Uv w1).alloc _;rw[hs1]at hI2;have HG2:=UX (hG.trans hG2);have HI2:=UX hI2;have HB1:=UX (hb1.grew hG2);clear hG hI2 hG2 hb1;go_upto_region 2 with fail;generalize w1.alloc (.cells #[.int .i64 200] 3)=w2 at*;have hb2:=HB1.out;have hC:=JJ (AD e) e (Ua _) HN.out w2 w.heap.size (w.heap.size+1) 1 200 _ (BC.keep (Ua _) (Ua _) HG2.out (fun _ _ h=>h) _ _ HR.out) (by omega) (by omega) (by omega) (by omega) HI2.out;rw[HZ.out]at hC;have HC:=UX hC;clear hs1 hC;go_wp2_with(first|(refine lN (.tmp 1) hb2 rX ?_)|(go_at_call 51;refine HC.out.mono ?_;rintro e2 w3 ⟨rfl,hb3,k3⟩;have a0:w3.cell? ⟨w.heap.size+1,0,none⟩=some (.int .i64 z):=hb3.cell 0)|fail);go_ret;exact⟨rfl,Uw HG2.out k3 fun i hi e=>by omega⟩
theorem KP {es:List Ex} {j:Nat} {e:Ex} (h:es[j]? =some e):AY (es.take (j+1))=max (AY (es.take j)) (Ae e):=by
 induction es generalizing j with
 |nil=>simp at h
 |cons a tl ih=>
  cases j with
  |zero=>
   obtain rfl:a=e:=by simpa using h
   simp[AY]
  |succ j=>
   rw[List.take_succ_cons,List.take_succ_cons];unfold AY;rw[ih (by simpa using h)];omega
theorem LY (e:Ex):Ae e=AY e.kids+1:=by
 cases e;rw[Ae];rfl
mutual
theorem L6:∀e:Ex,Ae e≤AD e
 | .mk _ _ _ _ _ _ _ _ _ _ kids=>by
  unfold Ae AD;have:=EG kids;omega
theorem EG:∀es:List Ex,AY es≤AO es
 |[]=>by unfold AY AO;omega
 |e::es=>by
  unfold AY AO;have h1:=L6 e;have h2:=EG es;omega
end
theorem ID:∀(k:Nat) (e:Ex),AD e≤k→k≤1000000→∀(w:World) (cs:List Value),BC w w.heap.size e cs→
  Calls Tryz.prog 39 #[.agg cs.toArray] w fun e' w'=>e'= .returned (.int .i64 (Ae e:Nat))∧A5 w w'
 |0,e,h,_,_,_,_=>absurd (AZ e) (by omega)
 |k+1,e,hk,hk2,w,cs,hr=>by
  obtain⟨vm,vb,vk,rfl, -, -,hT⟩:=hr.open_;have hne:=LY e;have hnn:=Ao e;have hdn:=EG e.kids;have hkl:=B9 e.kids;obtain⟨A,n,c,rfl,hn, -⟩:=hT.slice;have HIH:=UX (fun(e':Ex) (w':World) (cs:List Value) (h1:e'∈e.kids) (h2:BC w' w'.heap.size e' cs)=>ID k e' (by have:=AT h1;omega) (by omega) w' cs h2);have HT:=UX hT;have HN:=UX hn;have HNE:=UX hne;have hbx:=Ux w 29 (A8 e vm vb (.slice A n c)).toArray;have hG:=(Uv w).alloc (.cells (A8 e vm vb (.slice A n c)).toArray 29);have hb1:AY e.kids≤1000000:=by omega
  have hnb:n≤1000000:=by omega
  have HB1:=UX hb1;clear hr hT hn hne hkl hk hk2 hb1 hnn hdn;go_enter Tryz.func39,Tryz.ntmps39;go_upto_region 1 with fail;generalize w.alloc (.cells (A8 e vm vb (.slice A n c)).toArray 29)=w1 at*;have HBx:=UX hbx;have HG:=UX hG;clear hbx hG;go_wp2_with fail;go_loopw [3,4] (fun s i wr=>∃(j s':Nat),j≤n∧i= .int .i64 (j:Nat)∧s= .int .i64 (s':Nat)∧s'=AY (e.kids.take j)∧s'≤2000000∧A5 w1 wr) (fun _ i _=>n-(intOf i).toNat)
  case atStart=>exact⟨0,0,by omega,rfl,rfl,by simp[AY],by omega,Uv _⟩
  case round=>
   obtain⟨j,s',hj,rfl,rfl,hs,hsb,hGr⟩:=hrel;have HS:=UX hs;clear hs;have c10:wr.cell? ⟨w.heap.size,10,none⟩=some (.slice A n c):=(HBx.out.grew hGr).cell 10;by_cases hlt:j<n
   ·have hjl:j<e.kids.length:=by rw[←HN.out];exact hlt
    obtain⟨e',he'⟩:∃e',e.kids[j]? =some e':=⟨_,Uc hjl⟩;have hmem:e'∈e.kids:=Uk he';obtain⟨b,o,cs,rfl,hb,hrg,hre⟩:=(HT.out.grew (HG.out.trans hGr)).at_ he';obtain⟨vm',vb',vk',hcs, -⟩:=hre.open_;subst hcs;have HI:=UX (HIH.out e' wr _ hmem hre);have HSn:=UX (show AY (e.kids.take (j+1))=max s' (Ae e')from by rw[KP he',HS.out]);have hdk:Ae e'≤1000000:=by have:=Hq hmem;have:=HB1.out;omega
    have HRg:=UX hrg;have HGr:=UX hGr;clear hjl he' hmem hrg hre hGr;go_wp2_with(first|(refine lM (.tmp 16) HRg.out rX ?_)|fail);refine HI.out.mono ?_;rintro e2 w3 ⟨rfl,k3⟩;have HG3:=UX (HGr.out.trans k3);clear c10 k3 HI;go_wp2_with fail;go_roundw
    case rel=>exact⟨j+1,max s' (Ae e'),by omega,by go_num,(by congr 1;first|omega|(split<;>omega)),HSn.out.symm,by omega,HG3.out⟩
    case measure=>simp[intOf];omega
   obtain rfl:j=n:=by omega
   have HF:=UX (show s'+1=Ae e from by rw[HS.out,HNE.out,List.take_of_length_le (by rw[←HN.out];exact Ua _)]);go_wp2_with fail;go_ret;exact⟨by rw[←HF.out];rfl,HG.out.trans hGr⟩
theorem Fw (e:Ex) (hn:AD e≤1000000) (hok:Aw B1 e) (w:World) (cs:List Value) (hwt:Cy w) (hr:BC w w.heap.size e cs):
  Calls Tryz.prog 17 #[.agg cs.toArray] w fun e' w'=>e'= .returned (.int .i64 (CA e))∧A5 w w':=by
 obtain⟨vm,vb,vk,rfl, -⟩:=hr.open_;have HR:=UX (fun w' (g:A5 w w')=>hr.grew g);have hb1:=Ux w 29 (A8 e vm vb vk).toArray;have hG:=(Uv w).alloc (.cells (A8 e vm vb vk).toArray 29);have HFt:=UX (fun w' (g:A5 w w')=>L9 e hn w' (A8 e vm vb vk) (hr.grew g));have HCk:=UX (fun w' (g:A5 w w')=>JL (AD e) e (Ua _) hn hok w' (A8 e vm vb vk) (hwt.grew g) (hr.grew g));obtain⟨q,hq⟩:∃q,decide (0≤ET e 1 200)=q:=⟨_,rfl⟩;rw[hq]at HFt;obtain⟨z,hz⟩:∃z,BF e=z:=⟨_,rfl⟩;rw[hz]at HCk;have HV:=UX (show CA e=if q=true then z else 4 by
  unfold CA;rw[←hz];by_cases h:0≤ET e 1 200
  ·rw[Un ((IR e).1 h),Uo (hq.symm.trans (decide_eq_true h))]
  rw[Uo (Decidable.of_not_not fun h'=>h ((IR e).2 h')),Un (fun hc=>h (Ui (hq.trans hc)))])
 clear hr hok hwt hn hq hz;go_enter Tryz.func17,Tryz.ntmps17;go_upto_region 1 with fail;generalize w.alloc (.cells (A8 e vm vb vk).toArray 29)=w1 at*;have HG:=UX hG;clear hG;rcases q with _|_
 ·go_wp2_with(first|(refine lN (.tmp 1) hb1 rX ?_)|(go_at_call 29;(with_reducible refine(HFt.out _ HG.out).mono ?_);rintro e3 w3 ⟨rfl,k3⟩)|fail);go_ret;exact⟨by rw[HV.out];rfl,HG.out.trans k3⟩
 go_upto_region 3 with(first|(refine lN (.tmp 1) hb1 rX ?_)|(go_at_call 29;(with_reducible refine(HFt.out _ HG.out).mono ?_);rintro e3 w3 ⟨rfl,k3⟩)|fail);have hb3:=hb1.grew k3;have HG3:=UX (HG.out.trans k3);clear hb1 k3 HFt;go_wp2_with(first|(refine lN (.tmp 1) hb3 rX ?_)|(go_at_call 30;(with_reducible refine(HCk.out _ HG3.out).mono ?_);rintro e4 w4 ⟨rfl,k4⟩)|fail);go_ret;exact⟨by rw[HV.out];rfl,HG3.out.trans k4⟩
theorem LR (e:Ex) (hn:AD e≤1000000) (hok:Aw B1 e) (w:World) (cs:List Value) (hr:BC w w.heap.size e cs):
  Calls Tryz.prog 20 #[.agg cs.toArray] w fun e' w'=>e'= .returned (.int .i64 (CA e))∧A5 w w':=by
 obtain⟨vm,vb,vk,rfl, -⟩:=hr.open_;have HR:=UX (fun w' (g:A5 w w')=>hr.grew g);have hb1:=Ux w 29 (A8 e vm vb vk).toArray;have hG:=(Uv w).alloc (.cells (A8 e vm vb vk).toArray 29);have HDp:=UX (fun w' (g:A5 w w')=>ID (AD e) e (Ua _) hn w' (A8 e vm vb vk) (hr.grew g));have HNd:=UX (fun w' (g:A5 w w')=>IP (AD e) e (Ua _) hn w' (A8 e vm vb vk) (hr.grew g));have HCk:=UX (fun w' (g:A5 w w')=>Hl (AD e) e (Ua _) hn hok w' (A8 e vm vb vk) (hr.grew g));obtain⟨z,hz⟩:∃z,BF e=z:=⟨_,rfl⟩;rw[hz]at HCk;obtain⟨dp,hd⟩:∃d,Ae e=d:=⟨_,rfl⟩;obtain⟨nd,hnd⟩:∃d,AD e=d:=⟨_,rfl⟩;have HV:=UX (show CA e=if 12<dp∨200<nd then 4 else z by unfold CA;rw[hd,hnd,hz]);rw[hd]at HDp;rw[hnd]at HNd;clear hr hok hn hz hd hnd;go_enter Tryz.func20,Tryz.ntmps20;go_upto_region 1 with fail;generalize w.alloc (.cells (A8 e vm vb vk).toArray 29)=w1 at*;have HG:=UX hG;clear hG;by_cases h12:12<dp
 ·have t12:decide ((12:Int)<(dp:Int))=true:=by simp;omega
  have HF:=UX (show CA e=4 by rw[HV.out,Uo (.inl h12)]);clear h12;go_wp2_with(first|(refine lN (.tmp 1) hb1 rX ?_)|(go_at_call 39;(with_reducible refine(HDp.out _ HG.out).mono ?_);rintro e3 w3 ⟨rfl,k3⟩)|fail);go_ret;exact⟨by rw[HF.out];rfl,HG.out.trans k3⟩
 have t12:decide ((12:Int)<(dp:Int))=false:=by simp;omega
 by_cases h200:200<nd
 ·have t13:decide ((200:Int)<(nd:Int))=true:=by simp;omega
  have HF:=UX (show CA e=4 by rw[HV.out,Uo (.inr h200)]);clear h12 h200;go_wp2_with(first|(refine lN (.tmp 1) hb1 rX ?_)|((with_reducible refine CW 29 (.tmp 1) rfl ?_);refine OT rfl 29 Tryz.underlying29 rfl (.tmp 1) (w.heap.size) (A8 e vm vb vk) 29 Bd rfl rfl hb3 ?_)|(go_at_call 39;(with_reducible refine(HDp.out _ HG.out).mono ?_);rintro e3 w3 ⟨rfl,k3⟩;have hb3:=hb1.grew k3;have g3:=HG.out.trans k3)|(go_at_call 40;(with_reducible refine(HNd.out _ g3).mono ?_);rintro e4 w4 ⟨rfl,k4⟩)|fail);go_ret;exact⟨by rw[HF.out];rfl,g3.trans k4⟩
 have t13:decide ((200:Int)<(nd:Int))=false:=by simp;omega
 have HF:=UX (show CA e=z by rw[HV.out,Un (by omega)]);clear h12 h200;go_upto_region 3 with(first|(refine lN (.tmp 1) hb1 rX ?_)|((with_reducible refine CW 29 (.tmp 1) rfl ?_);refine OT rfl 29 Tryz.underlying29 rfl (.tmp 1) (w.heap.size) (A8 e vm vb vk) 29 Bd rfl rfl hb3 ?_)|(go_at_call 39;(with_reducible refine(HDp.out _ HG.out).mono ?_);rintro e3 w3 ⟨rfl,k3⟩;have hb3:=hb1.grew k3;have g3:=HG.out.trans k3)|(go_at_call 40;(with_reducible refine(HNd.out _ g3).mono ?_);rintro e4 w4 ⟨rfl,k4⟩)|fail);have hb4:=hb3.grew k4;have HG4:=UX (g3.trans k4);clear hb1 hb3 k3 k4 g3;go_wp2_with(first|(refine lN (.tmp 1) hb4 rX ?_)|(go_at_call 41;(with_reducible refine(HCk.out _ HG4.out).mono ?_);rintro e5 w5 ⟨rfl,k5⟩)|fail);go_ret;exact⟨by rw[HF.out];rfl,HG4.out.trans k5⟩
theorem Aw.and {p q:Ex→Prop}:∀(n:Nat) (e:Ex),AD e≤n→Aw p e→Aw q e→Aw (fun e=>p e∧q e) e
 |0,e,h,_,_=>absurd (AZ e) (by omega)
 |n+1,e,h,hp,hq=>Aa.2 ⟨⟨hp.top,hq.top⟩,fun k hk=>Aw.and n k (by
   have h1:=AT hk;have h2:=Ao e;omega) (hp.kid hk) (hq.kid hk)⟩
theorem Jk {e:Ex} (h:Aw B1 e) (hv:CA e=0):Aw KF e:=by
 unfold CA at hv;split at hv
 ·simp at hv
 have h2:=(G5 (AD e) e (Ua _)).1 hv;exact Aw.mono (fun e h=>⟨h.1.1,L7 (Hj h.2)⟩) (AD e) e (Ua _) (Aw.and (AD e) e (Ua _) h h2)
theorem Ck {w w5 w8:World} {B0 M:Nat} {e:Ex} {cs:List Value} (k8:A4 (fun i=>i=w.heap.size+1) w5 w8) (hB:B0≤w.heap.size) (hM:w.heap.size+2≤M) (h:AN w5 (C9 B0 M w5.heap.size) e cs):AN w8 (C9 B0 w.heap.size w8.heap.size) e cs:=by
 have hsz:=k8.size;exact AN.keep (S:=fun i=>i=w.heap.size+1) (fun b hb=>⟨hb.2,fun h=>by rcases hb.1 with h1|h1<;>omega,by rcases hb.1 with h1|h1;exact .inl h1;exact .inr (by omega),by have:=hb.2;omega⟩) k8 _ _ h
theorem O9 (e:Ex) (hn:AD e≤1000000) (hok:Aw B1 e) (w:World) (B0:Nat) (cs:List Value) (hB0:B0≤w.heap.size) (hr:BC w B0 e cs):
  Calls Tryz.prog 9 #[.agg cs.toArray] w (E1 w B0 (Cc e)):=by
 have hone:∀v∈cs,v.oneCell'=true:=AQ (BC.toQ (Q:=fun _=>True) (fun _ _=>trivial) e cs hr);obtain⟨vm,vb,vk,rfl, -⟩:=hr.open_;obtain⟨hb1,hb2,hG⟩:=BI w 29 29 (A8 e vm vb vk).toArray (AE 0 0).toArray;have hs2:((w.alloc (.cells (A8 e vm vb vk).toArray 29)).alloc (.cells (AE 0 0).toArray 29)).heap.size=w.heap.size+2:=by simp
 have HR:=UX (fun w' (g:A5 w w')=>BC.keep hB0 (Ua _) g (fun _ _ h=>h) e _ hr);have HVd:=UX (fun w' (g:A5 w w')=>LR e hn hok w' (A8 e vm vb vk) (BC.keep hB0 (Ue hB0 g.size) g (fun _ _ h=>h) e _ hr));obtain⟨z,hz⟩:∃z,CA e=z:=⟨_,rfl⟩;rw[hz]at HVd;have HZ:=UX hz;have HOK:=UX hok;have HN:=UX hn;have HB0:=UX hB0;clear hr hok hn hz hB0;go_enter Tryz.func9,Tryz.ntmps9;go_upto_region 1 with fail;change Code.wp _ _ _ _ ((w.alloc (.cells (A8 e vm vb vk).toArray 29)).alloc (.cells (AE 0 0).toArray 29));generalize (w.alloc (.cells (A8 e vm vb vk).toArray 29)).alloc (.cells (AE 0 0).toArray 29)=w1 at*;have HS:=UX hs2;have HG:=UX hG;clear hs2 hG;by_cases hz0:z=0
 ·subst hz0;have HF:=UX (show Cc e=AS e by unfold Cc;rw[Uo HZ.out]);go_upto_region 3 with(first|(refine lN (.tmp 1) hb1 rX ?_)|(go_at_call 20;(with_reducible refine(HVd.out _ HG.out).mono ?_);rintro e3 w3 ⟨rfl,k3⟩)|fail);have hb3:=hb1.grew k3;have hb4:=hb2.grew k3;have HG3:=UX (HG.out.trans k3);have hs3:=k3.size;have HS3:=UX (show w.heap.size+2≤w3.heap.size by have:=HS.out;omega);have HRw:=UX (LI (AD e) e (Ua _) HN.out (Jk HOK.out HZ.out) w3 B0 (A8 e vm vb vk) (by have:=HB0.out;have:=HS3.out;omega) (HR.out w3 HG3.out));clear hb1 hb2 k3 hs3 HVd;go_wp2_with(first|(refine lN (.tmp 1) hb3 rX ?_)|(go_at_call 21;(with_reducible refine HRw.out.mono ?_);rintro e4 w4 ⟨X,rfl,hrX,k4⟩;have hX1:=AQ hrX;have hXl:X.length=11:=(by obtain⟨a,b,c,h, -⟩:=hrX.open_;rw[h];rfl);have HX:=UX hrX;have HXl:=UX hXl;clear hrX hXl;have hb5:=hb4.grew k4)|(refine sN (.tmp 2) (.tmp 8) X hb5 rX ?_ (hl:=HXl.out) (h1:=hX1);intro w8 hb8 k8 d8)|fail);refine rO rX hb8 ?_ (hl:=HXl.out);refine⟨X,rfl,?_,Uw (HG3.out.trans k4) k8 (fun i hi e=>by omega)⟩;rw[HF.out];exact Ck k8 HB0.out HS3.out HX.out
 have t1:(z==0)=false:=by rw[UY];exact hz0
 have t2:(z !=0)=true:=by rw[bne,t1];rfl
 have HF:=UX (show Cc e=e by unfold Cc;rw[Un (by rw[HZ.out];exact hz0)]);clear hz0;go_wp2_with(first|(refine lN (.tmp 1) hb1 rX ?_)|(refine lN (.tmp 1) hb3 rX ?_)|(go_at_call 20;(with_reducible refine(HVd.out _ HG.out).mono ?_);rintro e3 w3 ⟨rfl,k3⟩;have hb3:=hb1.grew k3;have hb4:=hb2.grew k3;have g3:=HG.out.trans k3;have hs3:=k3.size;have HS3:=UX (show w.heap.size+2≤w3.heap.size by have:=HS.out;omega);clear hb1 hb2 k3 hs3)|(refine sN (.tmp 2) (.tmp 6) (A8 e vm vb vk) hb4 rX ?_ (h1:=hone);intro w8 hb8 k8 d8)|fail);refine rO rX hb8 ?_;refine⟨(A8 e vm vb vk),rfl,?_,Uw g3 k8 (fun i hi e=>by omega)⟩;rw[HF.out];exact Ck (M:=w3.heap.size) k8 HB0.out HS3.out (BC.toQ (fun b hb=>⟨.inl hb,by have:=HB0.out;have:=HS3.out;omega⟩) e _ (HR.out w3 g3))
end Go.Proofs.YtkclnhpofkaclaaGreatDoor
namespace Go.Proofs.YtkclnhpofkaclaaGreatDoor
open Go.Shelf Go.RowKit Pl
def OB:Go.Shelf.Ren:=⟨fun|264=>95|n=>n,fun|46=>141|53=>111|148=>117|n=>n,fun|n=>n⟩
theorem Rq:Go.Proofs.Lays.n264 Tryz.prog OB:={
 mixed:=by kernel_rfl
 f264:=Tryz.func95.trans (congrArg some (by kernel_rfl))
 t46:=Tryz.underlying141
 a46:=Tryz.isAgg141
 z46:=Tryz.sizeOf141
 v46:=Tryz.zeroValue141
 t53:=Tryz.underlying111
 a53:=Tryz.isAgg111
 z53:=Tryz.sizeOf111
 v53:=Tryz.zeroValue111 }
theorem Ji (x y:Nat) (hx:x<18446744073709551616) (hy:y<18446744073709551616) (w:World):
  Calls Tryz.prog 95 #[.int .u64 (x:Nat),.int .u64 (y:Nat)] w fun e w'=>e= .returned (.tuple #[.int .u64 ((x*y/18446744073709551616:Nat):Int),.int .u64 ((x*y%18446744073709551616:Nat):Int)])∧w'=w:=
 Go.Proofs.Any.bits_Mul64 Rq x y hx hy w
end Go.Proofs.YtkclnhpofkaclaaGreatDoor
namespace Go.Proofs.YtkclnhpofkaclaaGreatDoor
open Go.RowKit Pl
theorem JP (n:Nat) (h:n<18446744073709551616):IntKind.u64.wrap (n:Int)=(n:Int):=by
 show(n:Int)%2^64=(n:Int);omega
theorem Ea {fn:Func} {p:Tmp} {ty:TypeId} (h:fn.results=#[.cell p ty]) {tmps:Array Value} {w:World} {g:Nat} {vs:List Value} {t:TypeId} (hp:tmps.getD p undef= .pointer (some ⟨g,0,none⟩)) (hT:(Tryz.prog.info? ty).map (·.size)=some vs.length) {d:TypeDesc} (hu:Tryz.prog.underlying ty=some d) (hd:d.isRow=true) (hb:AK w g t vs.toArray):
  (results fn tmps).run Tryz.prog w= .ok (.agg vs.toArray) w:=by
 have hl:=run_loadVar_mid (P:=Tryz.prog) w g 0 ty vs d (hb.rangeN 0 vs (by simp)) hu hd hT;simp only[results,h];rw[Array.getD_eq_getD_getElem?]at hp;simp[hp,hl,asAddr]
def Aq (z:Int):List Value:=[.int .u64 ((z.natAbs/18446744073709551616:Nat):Int),.int .u64 ((z.natAbs%18446744073709551616:Nat):Int),.bool (decide (z<0))]
theorem Nn {a b:Int} (h:¬a*b=0):(decide (a<0) !=decide (b<0))=decide (a*b<0):=by
 have ha:a≠0:=fun e=>h (by rw[e,Int.zero_mul])
 have hb:b≠0:=fun e=>h (by rw[e,Int.mul_zero])
 rcases Int.lt_or_gt_of_ne ha with h1|h1<;>rcases Int.lt_or_gt_of_ne hb with h2|h2
 ·have:0<a*b:=Int.mul_pos_of_neg_of_neg h1 h2;simp[h1,h2];omega
 ·have:a*b<0:=Int.mul_neg_of_neg_of_pos h1 h2;simp[h1,this];omega
 ·have:a*b<0:=Int.mul_neg_of_pos_of_neg h1 h2;simp[h2,this];omega
 have:0<a*b:=Int.mul_pos h1 h2;simp[Int.not_lt.mpr (Int.le_of_lt h1),Int.not_lt.mpr (Int.le_of_lt h2)];omega
theorem E9 (a b:Int) (w:World) (ha: -9223372036854775808<a) (ha2:a≤9223372036854775807) (hb: -9223372036854775808<b) (hb2:b≤9223372036854775807):
  Calls Tryz.prog 97 #[.int .i64 a,.int .i64 b] w fun e w'=>e= .returned (.agg (Aq (a*b)).toArray)∧A5 w w':=by
 have hbx:=Ux w 113 #[.int .u64 0,.int .u64 0,.bool false];have HG:=UX ((Uv w).alloc (.cells #[.int .u64 0,.int .u64 0,.bool false] 113));have HA:=UX (fun w'=>GJ a w' (by omega) (by omega));have HB:=UX (fun w'=>GJ b w' (by omega) (by omega));have hp:a.natAbs*b.natAbs=(a*b).natAbs:=(Int.natAbs_mul a b).symm;have hm:=fun w'=>Ji a.natAbs b.natAbs (by omega) (by omega) w'
 obtain⟨hi,hhi⟩:∃hi:Nat,(a*b).natAbs/18446744073709551616=hi:=⟨_,rfl⟩;obtain⟨lo,hlo⟩:∃lo:Nat,(a*b).natAbs%18446744073709551616=lo:=⟨_,rfl⟩;simp only[hp,hhi,hlo]at hm;have HM:=UX hm;have HI:=UX hhi;have HL:=UX hlo;clear hp hm hhi hlo;have wa:IntKind.u64.wrap ((a.natAbs:Nat):Int)=((a.natAbs:Nat):Int):=JP _ (by omega);have wb:IntKind.u64.wrap ((b.natAbs:Nat):Int)=((b.natAbs:Nat):Int):=JP _ (by omega);go_enter Tryz.func97,Tryz.ntmps97;go_upto_region 1 with fail;generalize w.alloc (.cells #[.int .u64 0,.int .u64 0,.bool false] 113)=w1 at*;go_upto_region 2 with(first|(go_at_call 96;refine(HA.out _).mono ?_;rintro e w' ⟨rfl,hw⟩;rw[hw];clear hw)|(go_at_call 96;refine(HB.out _).mono ?_;rintro e w' ⟨rfl,hw⟩;rw[hw];clear hw)|(go_at_call 95;refine(HM.out _).mono ?_;rintro e w' ⟨rfl,hw⟩;rw[hw];clear hw));clear wa wb;have hhi:=HI.out;have hlo:=HL.out;by_cases h0:a*b=0
 ·obtain rfl:hi=0:=by rw[h0]at hhi;exact hhi.symm
  obtain rfl:lo=0:=by rw[h0]at hlo;exact hlo.symm
  clear hhi hlo HI HL;have H0:=UX h0;clear h0;go_wp2_with(refine P6 113 (.tmp 4) (.tmp 23) w.heap.size [.int .u64 0,.int .u64 0,.bool false] [.int .u64 0,.int .u64 0,.bool false] 113 (by kernel_rfl) rfl (by intro v hv;simp at hv;rcases hv with rfl|rfl<;>rfl) rfl rfl rfl rfl hbx ?_;intro w3 bx3 k3 d3;have r3:=bx3.rangeN 0 [.int .u64 0,.int .u64 0,.bool false] (by simp));refine bodyPost_ret (v:= .agg (Aq 0).toArray) (Ea rfl rfl (by kernel_rfl) Tryz.underlying113 rfl bx3) rfl ?_;rw[H0.out];exact⟨rfl,Uw HG.out k3 (fun i hi e=>by omega)⟩
 have HN:=UX (Nn h0);have hz:(a*b).natAbs≠0:=by omega
 have HW:Hid (Aq (a*b)=[.int .u64 (hi:Nat),.int .u64 (lo:Nat),.bool (decide (a*b<0))]):=UX (by unfold Aq;rw[hhi,hlo]);generalize (a*b).natAbs=z at*;clear h0;obtain⟨sa,hsa⟩:∃s:Bool,decide (a<0)=s:=⟨_,rfl⟩;obtain⟨sb,hsb⟩:∃s:Bool,decide (b<0)=s:=⟨_,rfl⟩;rw[hsa,hsb]at HN;by_cases h1:hi=0
 ·have t1:((hi:Int)==0)=true:=by rw[Ud];omega
  have t2:((lo:Int)==0)=false:=by rw[UY];omega
  clear h1 hhi hlo;go_wp2_with(refine P6 113 (.tmp 4) (.tmp 31) w.heap.size [.int .u64 (hi:Nat),.int .u64 (lo:Nat),.bool (sa !=sb)] [.int .u64 0,.int .u64 0,.bool false] 113 (by kernel_rfl) rfl (by intro v hv;simp at hv;rcases hv with rfl|rfl|rfl<;>rfl) rfl rfl rfl rfl hbx ?_;intro w3 bx3 k3 d3);refine bodyPost_ret (Ea rfl rfl (by kernel_rfl) Tryz.underlying113 rfl bx3) rfl ?_;rw[HW.out,←HN.out];exact⟨rfl,Uw HG.out k3 (fun i hi e=>by omega)⟩
 have t1:((hi:Int)==0)=false:=by rw[UY];omega
 clear h1 hhi hlo;go_wp2_with(refine P6 113 (.tmp 4) (.tmp 31) w.heap.size [.int .u64 (hi:Nat),.int .u64 (lo:Nat),.bool (sa !=sb)] [.int .u64 0,.int .u64 0,.bool false] 113 (by kernel_rfl) rfl (by intro v hv;simp at hv;rcases hv with rfl|rfl|rfl<;>rfl) rfl rfl rfl rfl hbx ?_;intro w3 bx3 k3 d3);refine bodyPost_ret (Ea rfl rfl (by kernel_rfl) Tryz.underlying113 rfl bx3) rfl ?_;rw[HW.out,←HN.out];exact⟨rfl,Uw HG.out k3 (fun i hi e=>by omega)⟩
end Go.Proofs.YtkclnhpofkaclaaGreatDoor
