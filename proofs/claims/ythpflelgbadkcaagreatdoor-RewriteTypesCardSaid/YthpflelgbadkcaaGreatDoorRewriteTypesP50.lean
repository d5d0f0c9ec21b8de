/- What the card of the law stands on: View, RowPut, Decls24. -/
import Derived.Test.YthpflelgbadkcaaGreatDoorRewriteTypesP01
import Derived.Test.YthpflelgbadkcaaGreatDoorRewriteTypesP49
import Derived.Test.YthpflelgbadkcaaGreatDoorRewriteTypesP43
import Derived.Test.YthpflelgbadkcaaGreatDoorRewriteTypesP41
set_option maxRecDepth 100000
set_option maxHeartbeats 12800000
set_option linter.unusedVariables false
set_option linter.unusedSimpArgs false
namespace Go.Proofs.YthpflelgbadkcaaGreatDoor
open Go.RowKit Go.Shelf Pl
theorem RR (v:Value) (l:List Int) (w:World) (h:Rd w w.heap.size v (l.map vi)) (hi:∀x∈l,BI x) (hl:l.length≤1000000000000000):
  Calls Tryz.prog 22 #[v] w fun e w'=>∃(v':Value) (b:Nat) (ss:List Sr),e= .returned v'∧GZ QB 13 w' (fun b=>b<w'.heap.size) v' ss∧1≤ss.length∧ss.length≤4∧(∀i s,ss[i]? =some s→TS b i s)∧A4 w w':=by
 obtain⟨A,n,c,rfl,hn,hc⟩:=h.form;have HPK:=V3 (fun w' (g:A4 w w') i m (hi0:i≤1000000) (hm:0<m) (hm2:m≤1000000)=>Hw (.slice A n c) l i m w' ((h.grew (V6 _) g).more g.size) hi (by omega) hi0 hm hm2);have HMy:=V3 (fun w' (g:A4 w w') p (hp:p≤1000)=>Qk (.slice A n c) l p 48 w' ((h.grew (V6 _) g).more g.size) hi hp (by decide));clear h hi hl hn hc;obtain⟨b0,hb0⟩:∃q,FX l 0 8=q:=⟨_,rfl⟩;have hb8:b0<8:=by rw[←hb0];exact Ja _ _ _ (by decide)
 have HP0:=V3 (show ∀w',A4 w w'→Calls Tryz.prog 23 #[.slice A n c,.int .i64 0,.int .i64 8] w' fun e w''=>e= .returned (.int .i64 (b0:Nat))∧w''=w' from fun w' g=>by have:=HPK.out w' g 0 8 (by omega) (by decide) (by decide);rw[hb0]at this;exact this);obtain⟨m0,hm0⟩:∃q,FX l 1 4=q:=⟨_,rfl⟩;have hm4:m0<4:=by rw[←hm0];exact Ja _ _ _ (by decide)
 have HP1:=V3 (show ∀w',A4 w w'→Calls Tryz.prog 23 #[.slice A n c,.int .i64 1,.int .i64 4] w' fun e w''=>e= .returned (.int .i64 (m0:Nat))∧w''=w' from fun w' g=>by have:=HPK.out w' g 1 4 (by omega) (by decide) (by decide);rw[hm0]at this;exact this);clear hb0 hm0;go_enter Tryz.func22,Tryz.ntmps22;go_wp2_with(go_at_call 23;(with_reducible refine(HP0.out _ (VU _)).mono ?_);rintro e0 wx ⟨rfl,hwx⟩;rw[hwx];clear hwx wx);go_loopw [3,5,6,8] (fun so i _ _ wr=>∃(j:Nat) (ss:List Sr) (rows:List (List Value)),j≤m0+1∧i= .int .i64 (j:Nat)∧B8 wr w.heap.size 84 13 so rows∧Gr QB wr (J9 0 w.heap.size so wr.heap.size) ss rows∧ss.length=j∧(∀i s,ss[i]? =some s→TS b0 i s)∧A4 w wr) (fun _ i _ _ _=>m0+1-(intOf i).toNat)
 case atStart=>exact⟨0,[],[],by omega,rfl,B8.nil _ _ _ _,Gr.nil _ _,rfl,(fun i s h=>by simp at h),VU _⟩
 case round=>
  obtain⟨j,ss,rows,hj,rfl,hM,hR,hsl,hso,hG⟩:=hrel;obtain⟨As,ns,ks,rfl,hns, -⟩:=hM.slice;have HMR:=V3 hM;have HRs:=V3 hR;have HSo:=V3 hso;have HSl:=V3 hsl;have HG:=V3 hG;have HSz:=V3 hG.size;clear hM hR hG hns hso hsl;by_cases hlt:j≤m0
  ·have t0:decide ((j:Int)≤(m0:Int))=true:=by simpa using hlt
   have HMj:=V3 (fun w' (g:A4 w w')=>(show Calls Tryz.prog 42 #[.slice A n c,.int .i64 (j:Nat),.int .i64 48] w' (M7 48 w')from HMy.out w' g j (by omega)));go_upto_region 8 with(first|(go_at_call 23;(with_reducible refine(HP1.out _ HG.out).mono ?_);rintro e0 wx ⟨rfl,hwx⟩;rw[hwx];clear hwx wx)|(go_at_call 42;(with_reducible refine(HMj.out _ HG.out).mono ?_);rintro e1 w1 ⟨Am,cm,xs,rfl,hrm,hmm,hcm,hxl,hxs,k1⟩;obtain⟨gm,rfl⟩:=hmm.some0 (by decide);have HRm:=V3 hrm;have HMm:=V3 hmm;have HXl:=V3 hxl;have HXs:=V3 hxs;have HG1:=V3 k1;clear hrm hmm hxl hxs k1)|(refine TQ Gw rfl (.tmp 20) (.const (.int .i64 9)) rfl rfl (k:=9) rfl (by decide) HRm.out ?_;intro A9 c9 hr9;have HR9:=V3 hr9;clear hr9)|(go_at_call 43;obtain⟨nm,x,hx,hc⟩:=PD (.slice A9 9 c9) (xs.take 9) w1 (by have h:=HR9.out;rwa[←List.map_take]at h) (fun y hy=>by have:=HXs.out y (List.mem_of_mem_take hy);unfold BI;omega) (by rw[List.length_take];omega);refine hc.mono ?_;rintro e2 w2 ⟨vd,ls2,rfl,hls2, -,k2⟩;obtain⟨AL,cL,rfl⟩:=hls2.slc;have HX:=V3 hx;have HG2:=V3 (HG1.out.trans k2);have HMm2:=V3 (HMm.out.grew k2);clear hc k2 hx)|((with_reducible refine AG 54 (.tmp 7) (.tmp 22) rfl ?_);refine BL 54 (.tmp 7) (.tmp 22) (w2.heap.size) (AQ nm (.slice AL ls2.length cL) x) UC 54 Nf rfl (LE _ _ _ _ _) rfl rfl rfl rfl (VW w2 54 _) ?_;intro w3 hb3 k3 d3;have g3:A4 w2 w3:=VV ((VU w2).alloc _) k3 (fun i hi e=>by omega);have HD3:=V3 hb3;have HG3:=V3 (HG2.out.trans g3);have HM3:=V3 (HMm2.out.grew g3);have HR3:=V3 ((HMm2.out.grew g3).rd);have hzw:=g3.size;clear hb3 k3 d3 g3));have hzlt:=HD3.out.lt;have hgz:wr.heap.size≤w2.heap.size:=HG2.out.size;have hgm:gm<w2.heap.size:=by have:=HMm2.out.lt gm rfl;omega
   obtain⟨zd,hzd⟩:∃z,w2.heap.size=z:=⟨_,rfl⟩;rw[hzd]at HD3 hzlt hgz hgm ⊢;have HZd:=V3 (V5 hgz hgm);clear hzd hzw hls2 HRm HMm HG1 HR9 HG2 HMm2;generalize ls2.length=nL at*
   -- the name
   obtain⟨q2,hq2⟩:∃q:Nat,(b0+3*j)%2=q:=⟨_,rfl⟩;have hq22:q2<2:=by omega
   have e0:IntKind.i64.wrap (3*(j:Int))=3*(j:Int):=IntWalk.i64_in _ (by omega);have e1:IntKind.i64.wrap ((b0:Int)+3*(j:Int))=(b0:Int)+3*(j:Int):=IntWalk.i64_in _ (by omega);have e2:((b0:Int)+3*(j:Int))%2=(q2:Nat):=by omega
   have i0:(0:Int)≤(q2:Nat):=by omega
   have i1:((q2:Nat):Int)<2:=by omega
   have hD4:=HD3.out.alloc (.cells #[.string ⟨#[99,112,117]⟩,.string ⟨#[109,101,109]⟩] 9);have hbn:=VW w3 9 #[.string ⟨#[99,112,117]⟩,.string ⟨#[109,101,109]⟩];have hG4:=HG3.out.alloc (.cells #[.string ⟨#[99,112,117]⟩,.string ⟨#[109,101,109]⟩] 9);have hg34:A4 w3 (w3.alloc (.cells #[.string ⟨#[99,112,117]⟩,.string ⟨#[109,101,109]⟩] 9)):=(VU w3).alloc _;have hcn:(w3.alloc (.cells #[.string ⟨#[99,112,117]⟩,.string ⟨#[109,101,109]⟩] 9)).cell? ⟨w3.heap.size,q2,none⟩=some (.string (BP q2)):=by
    rw[hbn.cell];rcases(by omega:q2=0∨q2=1)with rfl|rfl<;>rfl
   have c0:=hD4.cell 0;have f0:=hD4.frozen 0;go_upto_region 9 with fail;have hs4:=VZ (VY (fun i=>i=zd) w3) (p:=⟨zd,0,none⟩) (.inl rfl) (.string (BP q2));have HD5:=V3 (show AR ((w3.setCell ⟨zd,0,none⟩ (.string (BP q2))).alloc (.cells #[.string ⟨#[99,112,117]⟩,.string ⟨#[109,101,109]⟩] 9)) zd 54 (AQ (BP q2) (.slice AL nL cL) x).toArray from(HD3.out.set_ 0 _).alloc _);have HG5:=V3 (show A4 wr ((w3.setCell ⟨zd,0,none⟩ (.string (BP q2))).alloc (.cells #[.string ⟨#[99,112,117]⟩,.string ⟨#[109,101,109]⟩] 9))from(VZ HG3.out (p:=⟨zd,0,none⟩) (.inr hgz) _).alloc _);have HM5:=V3 ((HM3.out.keep hs4 (fun b hb e=>by(have h1:gm=b:=(by simpa[Value.ownBlock]using hb));omega)).alloc (.cells #[.string ⟨#[99,112,117]⟩,.string ⟨#[109,101,109]⟩] 9));clear e2 i0 i1 hD4 hbn hG4 hg34 hcn c0 f0 HD3 HG3 HM3 HR3 hzlt hs4;generalize (w3.setCell ⟨zd,0,none⟩ (.string (BP q2))).alloc (.cells #[.string ⟨#[99,112,117]⟩,.string ⟨#[109,101,109]⟩] 9)=w5 at*
   -- the labels
   obtain⟨k2,hk2⟩:∃q:Nat,(b0+3*j)%8/2=q:=⟨_,rfl⟩;have hk24:k2<4:=by omega
   have HK2:=V3 (V5 hk2 hq2);have e3:((b0:Int)+3*(j:Int))%8/2=(k2:Nat):=by omega
   have HLk:=V3 (M5 k2 hk24);have i0:(0:Int)≤(b0:Int)+3*(j:Int):=by omega
   have i1:(0:Int)≤((b0:Int)+3*(j:Int))%8:=by omega
   clear hk2 hq2;go_upto_region 10 with(go_at_call 44;(with_reducible refine(HLk.out _).mono ?_);rintro e6 w6 ⟨A6,n6,c6,rfl,hl6,k6⟩;have hD6:=HD5.out.grew k6;have hG6:=HG5.out.trans k6;have hM6:=HM5.out.grew k6;have c1:=hD6.cell 1;have f1:=hD6.frozen 1;have hz5:=HD5.out.lt)
   -- the numbers
   have hl7:=hl6.keep (S:=fun i=>i=zd) (Q':=fun b=>wr.heap.size≤b∧b<(w6.setCell ⟨zd,1,none⟩ (.slice A6 n6 c6)).heap.size∧b≠zd) (fun b hb=>⟨hb.2,(by have:=hb.1;omega),by have:=HG5.out.size;have:=hb.1;omega,by have:=hb.2;simpa using this,by have:=hb.1;omega⟩) (VZ (VY (fun i=>i=zd) w6) (p:=⟨zd,1,none⟩) (.inl rfl) (.slice A6 n6 c6));have V7:=V3 (show VS wr (w6.setCell ⟨zd,1,none⟩ (.slice A6 n6 c6)) zd gm cm xs (BP q2) A6 n6 c6 (N5 k2) x from⟨hD6.set_ 1 _,VZ hG6 (p:=⟨zd,1,none⟩) (.inr hgz) _,hM6.keep (VZ (VY (fun i=>i=zd) w6) (p:=⟨zd,1,none⟩) (.inl rfl) _) (fun b hb e=>by(have h1:gm=b:=(by simpa[Value.ownBlock]using hb));omega),hl7,hgz,by omega⟩);clear hl7 hl6 hD6 hG6 hM6 c1 f1 hz5 e3 i0 i1 k6 HD5 HG5 HM5 e0 e1;generalize w6.setCell ⟨zd,1,none⟩ (.slice A6 n6 c6)=w7 at*;obtain⟨v9,hv9⟩:∃v,xs.getD 9 0=v:=⟨_,rfl⟩;obtain⟨v10,hv10⟩:∃v,xs.getD 10 0=v:=⟨_,rfl⟩;obtain⟨v40,hv40⟩:∃v,xs.getD 40 0=v:=⟨_,rfl⟩;have hxin:∀k,k<48→0≤xs.getD k 0∧xs.getD k 0<1000003:=fun k hk=>by
    rw[List.getD_eq_getElem?_getD,VB (by rw[HXl.out];exact hk)];exact HXs.out _ (List.getElem_mem _)
   have h9:=hxin 9 (by decide);have h10:=hxin 10 (by decide);have h40:=hxin 40 (by decide);rw[hv9]at h9;rw[hv10]at h10;rw[hv40]at h40;obtain⟨v90,v91⟩:=h9;obtain⟨va0,va1⟩:=h10;have HV:=V3 (V5 hv9 (V5 hv10 (V5 hv40 h40)));clear hv9 hv10 hv40 h40 hxin;have HMX:=HX;obtain⟨x3,x3',x4,x4',x5,x5',x6,x6',x7a,x7b,x8,x8'⟩:=HX.out;have d7:w7.cell? ⟨zd,7,none⟩=some (.int .i64 (x 5)):=V7.out.box.cell 7;go_upto_region 14 with(first
    |(refine Iv (.tmp 43) (.tmp 42) 5 (by decide) _ rfl rfl rfl rfl V7.out.box ?_;intro w8 hb8 k8;obtain⟨D5,hD5,hb8⟩:∃D:Int,(-3≤D∧D≤0∧D≤x 6)∧AR w8 zd 54 (AQ (BP q2) (.slice A6 n6 c6) (C2 x 5 D)).toArray:=(by exact⟨_,by(first|omega|(split<;>omega)),hb8⟩);have V8:=V3 (V7.out.step hb8 k8);have HD5:=V3 hD5;have d8:w8.cell? ⟨zd,8,none⟩=some (.int .i64 (x 6)):=hb8.cell 8;clear hb8 k8 hD5)
    |(refine Iv (.tmp 47) (.tmp 46) 6 (by decide) _ rfl rfl rfl rfl V8.out.box ?_;intro w9 hb9 k9;obtain⟨D6,hD6,hb9⟩:∃D:Int,(0≤D∧D≤4)∧AR w9 zd 54 (AQ (BP q2) (.slice A6 n6 c6) (C2 (C2 x 5 D5) 6 D)).toArray:=(by exact⟨_,by(first|omega|(split<;>omega)),hb9⟩);have V9:=V3 (V8.out.step hb9 k9);have HD6:=V3 hD6;have e9:w9.cell? ⟨gm,9,none⟩=some (.int .i64 v9):=(by have h:=(V9.out.row.int_cell (k:=9) (by rw[HXl.out];decide)).1;rw[HV.out.1]at h;exact h);clear hb9 k9 hD6)
    |(refine Iv (.tmp 52) (.tmp 51) 7 (by decide) _ rfl rfl rfl rfl V9.out.box ?_;intro w10 hb10 k10;obtain⟨D7,hD7,hb10⟩:∃D:Int,(0≤D∧D≤3)∧AR w10 zd 54 (AQ (BP q2) (.slice A6 n6 c6) (C2 (C2 (C2 x 5 D5) 6 D6) 7 D)).toArray:=(by exact⟨_,by omega,hb10⟩);have V10:=V3 (V9.out.step hb10 k10);have HD7:=V3 hD7;have e10:w10.cell? ⟨gm,10,none⟩=some (.int .i64 v10):=(by have h:=(V10.out.row.int_cell (k:=10) (by rw[HXl.out];decide)).1;rw[HV.out.2.1]at h;exact h);have hwx:IntKind.i64.wrap (9+v10%4)=9+v10%4:=IntWalk.i64_in _ (by omega);clear hb10 k10 hD7)
    |(refine Iv (.tmp 58) (.tmp 57) 8 (by decide) _ rfl rfl rfl rfl V10.out.box ?_;intro w12 hb12 k12;obtain⟨D8,hD8,hb12⟩:∃D:Int,(9≤D∧D≤12)∧AR w12 zd 54 (AQ (BP q2) (.slice A6 n6 c6) (C2 (C2 (C2 (C2 x 5 D5) 6 D6) 7 D7) 8 D)).toArray:=(by exact⟨_,by omega,hb12⟩);have V12:=V3 (V10.out.step hb12 k12);have HD8:=V3 hD8;clear hb12 k12 hD8))
   have hTn:Ie (C2 (C2 (C2 (C2 x 5 D5) 6 D6) 7 D7) 8 D8):=by
    obtain⟨a1,a2,a3⟩:=HD5.out;obtain⟨b1,b2⟩:=HD6.out;obtain⟨c1,c2⟩:=HD7.out;obtain⟨c3,c4⟩:=HD8.out;constructor<;>simp[C2]<;>omega
   have hTz:(C2 (C2 (C2 (C2 x 5 D5) 6 D6) 7 D7) 8 D8) 5≤0∧0≤(C2 (C2 (C2 (C2 x 5 D5) 6 D6) 7 D7) 8 D8) 6:=⟨HD5.out.2.1,HD6.out.1⟩;have hTl:(C2 (C2 (C2 (C2 x 5 D5) 6 D6) 7 D7) 8 D8) 7≤3∧9≤(C2 (C2 (C2 (C2 x 5 D5) 6 D6) 7 D7) 8 D8) 8:=⟨HD7.out.2,HD8.out.1⟩;obtain⟨x7,hx7⟩:∃y,C2 (C2 (C2 (C2 x 5 D5) 6 D6) 7 D7) 8 D8=y:=⟨_,rfl⟩;rw[hx7]at V12 hTn hTz hTl;have HTn:=V3 (V5 hTn (V5 hTz hTl));clear hx7 hTz hTl V7 V8 V9 V10 HD5 HD6 HD7 HD8 x3 x3' x4 x4' x5 x5' x6 x6' x7a x7b x8 x8' HMX HX v90 v91 va0 va1;have gd:A4 w12 w12.drew:=VX (VU w12);have hx25:∀y∈(xs.drop 11).take 14,BI y:=fun y hy=>by have:=HXs.out y (List.mem_of_mem_drop (List.mem_of_mem_take hy));unfold BI;omega
   have HIn:=V3 (show Calls Tryz.prog 45 #[.agg (AQ (BP q2) (.slice A6 n6 c6) x7).toArray,.slice (some ⟨gm,11,none⟩) 14 (cm-11)] w12.drew (JE (FQ x7) w12.drew)from Mu (BP q2) A6 n6 c6 x7 _ ((xs.drop 11).take 14) w12.drew hTn ((V12.out.row.grew gd).sub (i:=11) (j:=25) (by decide) (by decide)) hx25 (by rw[List.length_take];omega));clear hx25;refine C6 [(3,fun w'=>A4 w12.drew w')] (by kernel_rfl) (by intro pp hp;obtain rfl:=VF.1 hp;exact VU _) ?_;intro hcl hkn
   try simp only[List.getElem_toArray,List.getElem_cons_zero,List.getElem_cons_succ,Act.put,List.setIfInBounds_toArray,List.set_cons_zero,List.set_cons_succ]
   refine Bg 3 _ (i:=0) rfl (by kernel_rfl) (by kernel_rfl) (by kernel_rfl) hcl hkn (by rfl) 0 rfl (by kernel_rfl) 54 (.tmp 7) rfl zd 0 rfl (AQ (BP q2) (.slice A6 n6 c6) x7) _ (fun w' hA=>(V12.out.box.grew (gd.trans hA)).rangeN 0 _ rfl) Tryz.underlying54 rfl FA (fun _ _ _ h=>h) rfl ?_;clear hcl hkn;intro hcl hkn
   try simp only[List.getElem_toArray,List.getElem_cons_zero,List.getElem_cons_succ,Act.put,List.setIfInBounds_toArray,List.set_cons_zero,List.set_cons_succ]
   refine' AV (i:=1) (v:=_) rfl (by kernel_rfl) (by kernel_rfl) (by kernel_rfl) hcl hkn (by rfl) (fun _ _ _ h=>h) rfl ?_ ?_
   rotate_left
   ·intro w';go_simp;try with_reducible rfl
   clear hcl hkn;intro hcl hkn
   try simp only[List.getElem_toArray,List.getElem_cons_zero,List.getElem_cons_succ,Act.put,List.setIfInBounds_toArray,List.set_cons_zero,List.set_cons_succ]
   refine AV (i:=2) rfl (by kernel_rfl) (by kernel_rfl) (by kernel_rfl) hcl hkn (by rfl) (fun _ _ _ h=>h) rfl (Pg Gw (.tmp 60) (.const (.int .i64 11)) (.const (.int .i64 25)) rfl (i:=11) (j:=25) rfl rfl rfl (by decide) (by omega) (by omega)) ?_;clear hcl hkn;intro hcl hkn
   try simp only[List.getElem_toArray,List.getElem_cons_zero,List.getElem_cons_succ,Act.put,List.setIfInBounds_toArray,List.set_cons_zero,List.set_cons_succ]
   refine BF hcl (i:=3) (by kernel_rfl) rfl rfl (fun K hK=>?_);go_simp;(with_reducible refine HIn.out.mono ?_);rintro e13 w13 ⟨A13,c13,vs,rfl,hm13,hl13,hs13,k13⟩;refine hK _ _ (Aw (.inl (by kernel_rfl))) ?_;clear hK K;clear hcl hkn;intro hcl hkn
   try simp only[List.getElem_toArray,List.getElem_cons_zero,List.getElem_cons_succ,Act.put,List.setIfInBounds_toArray,List.set_cons_zero,List.set_cons_succ]
   refine BF hcl (i:=4) (by kernel_rfl) rfl rfl (fun K hK=>?_);go_simp;refine hK _ _ (Aw (.inl (by kernel_rfl))) ?_;clear hK K;clear hcl hkn;intro hcl hkn
   try simp only[List.getElem_toArray,List.getElem_cons_zero,List.getElem_cons_succ,Act.put,List.setIfInBounds_toArray,List.set_cons_zero,List.set_cons_succ]
   refine Ca (by kernel_rfl) ?_ _;clear hcl hkn;have HVs:=V3 (V5 hl13 hs13);have HMv:=V3 hm13;have V13:=V3 (V12.out.more (gd.trans k13));clear hm13 hl13 hs13 k13 gd HIn V12;go_upto_region 15 with fail;obtain⟨hv40,hv40a,hv40b⟩:=HV.out.2.2;have HC40:=V3 (fun w' (hA:A4 w13.drew w')=>(show w'.cell? ⟨gm,40,none⟩=some (.int .i64 v40)from by
    have h:=((V13.out.row.grew ((VX (VU w13)).trans hA)).int_cell (k:=40) (by rw[HXl.out];decide)).1;rw[hv40]at h;exact h))
   obtain⟨k5,hk5⟩:∃k:Nat,v40%5=(k:Int):=⟨(v40%5).toNat,by omega⟩;have hk55:k5<5:=by omega
   have u1:IntKind.i64.wrap (3*(k5:Int))=3*(k5:Int):=IntWalk.i64_in _ (by omega);have u2:IntKind.i64.wrap (25+3*(k5:Int))=25+3*(k5:Int):=IntWalk.i64_in _ (by omega);have htm:v40.tmod 5=(k5:Int):=by rw[Int.tmod_eq_emod_of_nonneg hv40a];exact hk5
   have gd2:A4 w13 w13.drew:=VX (VU w13);have hx25:∀y∈(xs.drop 25).take (25+3*k5-25),BI y:=fun y hy=>by have:=HXs.out y (List.mem_of_mem_drop (List.mem_of_mem_take hy));unfold BI;omega
   have HAr:=V3 (show Calls Tryz.prog 46 #[.agg (AQ (BP q2) (.slice A6 n6 c6) x7).toArray,.slice A13 (FQ x7) c13,.slice (some ⟨gm,25,none⟩) (3*k5) (cm-25),.int .i64 4] w13.drew (Lr x7 w13.drew)from by
    have h:=LI 4 (by decide) (BP q2) A6 n6 c6 x7 _ _ vs ((xs.drop 25).take (25+3*k5-25)) w13.drew HTn.out.1 ((HMv.out.grew gd2).rd) HVs.out.1 HVs.out.2 ((V13.out.row.grew gd2).sub (i:=25) (j:=25+3*k5) (by omega) (by omega)) hx25 (by rw[List.length_take];omega);rw[Nat.add_sub_cancel_left]at h;exact h)
   clear hx25 hv40 hv40a hv40b;refine C6 [(14,fun w'=>A4 w13.drew w')] (by kernel_rfl) (by intro pp hp;obtain rfl:=VF.1 hp;exact VU _) ?_;intro hcl hkn
   try simp only[List.getElem_toArray,List.getElem_cons_zero,List.getElem_cons_succ,Act.put,List.setIfInBounds_toArray,List.set_cons_zero,List.set_cons_succ]
   refine' AV (i:=0) (v:=_) rfl (by kernel_rfl) (by kernel_rfl) (by kernel_rfl) hcl hkn (by rfl) (fun _ _ _ h=>h) rfl ?_ ?_
   rotate_left
   ·intro w';go_simp;try with_reducible rfl
   clear hcl hkn;intro hcl hkn
   try simp only[List.getElem_toArray,List.getElem_cons_zero,List.getElem_cons_succ,Act.put,List.setIfInBounds_toArray,List.set_cons_zero,List.set_cons_succ]
   refine Cb [13] 14 _ (i:=1) rfl (by kernel_rfl) (by kernel_rfl) (by kernel_rfl) hcl hkn (by rfl) 0 rfl (by kernel_rfl) 54 (.tmp 7) rfl zd 0 rfl (AQ (BP q2) (.slice A6 n6 c6) x7) _ (fun w' hA=>(V13.out.box.grew (gd2.trans hA)).rangeN 0 _ rfl) Tryz.underlying54 rfl FA (fun _ _ _ h=>h) (by kernel_rfl) ?_;clear hcl hkn;intro hcl hkn
   try simp only[List.getElem_toArray,List.getElem_cons_zero,List.getElem_cons_succ,Act.put,List.setIfInBounds_toArray,List.set_cons_zero,List.set_cons_succ]
   refine Cb [13,12] 14 _ (i:=2) rfl (by kernel_rfl) (by kernel_rfl) (by kernel_rfl) hcl hkn (by rfl) 0 rfl (by kernel_rfl) 54 (.tmp 7) rfl zd 0 rfl (AQ (BP q2) (.slice A6 n6 c6) x7) _ (fun w' hA=>(V13.out.box.grew (gd2.trans hA)).rangeN 0 _ rfl) Tryz.underlying54 rfl FA (fun _ _ _ h=>h) (by kernel_rfl) ?_;clear hcl hkn;intro hcl hkn
   try simp only[List.getElem_toArray,List.getElem_cons_zero,List.getElem_cons_succ,Act.put,List.setIfInBounds_toArray,List.set_cons_zero,List.set_cons_succ]
   refine' AV (i:=3) (v:=_) rfl (by kernel_rfl) (by kernel_rfl) (by kernel_rfl) hcl hkn (by rfl) (fun _ _ _ h=>h) rfl ?_ ?_
   rotate_left
   ·intro w';go_simp;try with_reducible rfl
   clear hcl hkn;intro hcl hkn
   try simp only[List.getElem_toArray,List.getElem_cons_zero,List.getElem_cons_succ,Act.put,List.setIfInBounds_toArray,List.set_cons_zero,List.set_cons_succ]
   refine' AV (i:=4) (v:=_) rfl (by kernel_rfl) (by kernel_rfl) (by kernel_rfl) hcl hkn (by rfl) (fun _ _ _ h=>h) rfl ?_ ?_
   rotate_left
   ·intro w';go_simp;try with_reducible rfl
   clear hcl hkn;intro hcl hkn
   try simp only[List.getElem_toArray,List.getElem_cons_zero,List.getElem_cons_succ,Act.put,List.setIfInBounds_toArray,List.set_cons_zero,List.set_cons_succ]
   refine' AV (i:=5) (v:=_) rfl (by kernel_rfl) (by kernel_rfl) (by kernel_rfl) hcl hkn (by rfl) (fun _ _ _ h=>h) rfl ?_ ?_
   rotate_left
   ·intro w';go_simp;try with_reducible rfl
   clear hcl hkn;intro hcl hkn
   try simp only[List.getElem_toArray,List.getElem_cons_zero,List.getElem_cons_succ,Act.put,List.setIfInBounds_toArray,List.set_cons_zero,List.set_cons_succ]
   refine' AV (i:=6) (v:=_) rfl (by kernel_rfl) (by kernel_rfl) (by kernel_rfl) hcl hkn (by rfl) (fun _ _ _ h=>h) rfl ?_ ?_
   rotate_left
   ·intro w';go_simp;try with_reducible rfl
   clear hcl hkn;intro hcl hkn
   try simp only[List.getElem_toArray,List.getElem_cons_zero,List.getElem_cons_succ,Act.put,List.setIfInBounds_toArray,List.set_cons_zero,List.set_cons_succ]
   refine' BK [13,12,11,10,9,8] 14 _ (i:=7) (v:=_) rfl (by kernel_rfl) (by kernel_rfl) (by kernel_rfl) hcl hkn (by rfl) 0 rfl (by kernel_rfl) (fun _ _ _ h=>h) rfl ?_ ?_
   rotate_left
   ·intro w' hA;have hc:w'.cell? ⟨gm,40,none⟩=some (.int .i64 v40):=HC40.out _ hA;go_simp;try with_reducible rfl
   clear hcl hkn;intro hcl hkn
   try simp only[List.getElem_toArray,List.getElem_cons_zero,List.getElem_cons_succ,Act.put,List.setIfInBounds_toArray,List.set_cons_zero,List.set_cons_succ]
   refine' AV (i:=8) (v:=_) rfl (by kernel_rfl) (by kernel_rfl) (by kernel_rfl) hcl hkn (by rfl) (fun _ _ _ h=>h) rfl ?_ ?_
   rotate_left
   ·intro w';go_simp;try with_reducible rfl
   clear hcl hkn;intro hcl hkn
   try simp only[List.getElem_toArray,List.getElem_cons_zero,List.getElem_cons_succ,Act.put,List.setIfInBounds_toArray,List.set_cons_zero,List.set_cons_succ]
   refine' AV (i:=9) (v:=_) rfl (by kernel_rfl) (by kernel_rfl) (by kernel_rfl) hcl hkn (by rfl) (fun _ _ _ h=>h) rfl ?_ ?_
   rotate_left
   ·intro w';go_simp;try with_reducible rfl
   clear hcl hkn;intro hcl hkn
   try simp only[List.getElem_toArray,List.getElem_cons_zero,List.getElem_cons_succ,Act.put,List.setIfInBounds_toArray,List.set_cons_zero,List.set_cons_succ]
   refine' AV (i:=10) (v:= .int .i64 ((25+3*k5:Nat):Int)) rfl (by kernel_rfl) (by kernel_rfl) (by kernel_rfl) hcl hkn (by rfl) (fun _ _ _ h=>h) rfl ?_ ?_
   ·intro w';have e:((25+3*k5:Nat):Int)=25+3*(k5:Int):=(by omega);rw[e];go_simp
   clear hcl hkn;intro hcl hkn
   try simp only[List.getElem_toArray,List.getElem_cons_zero,List.getElem_cons_succ,Act.put,List.setIfInBounds_toArray,List.set_cons_zero,List.set_cons_succ]
   refine AV (i:=11) rfl (by kernel_rfl) (by kernel_rfl) (by kernel_rfl) hcl hkn (by rfl) (fun _ _ _ h=>h) rfl (Pg Gw (.tmp 67) (.const (.int .i64 25)) (.tmp 73) rfl (i:=25) (j:=25+3*k5) rfl rfl rfl (by omega) (by omega) (by omega)) ?_;clear hcl hkn;intro hcl hkn
   try simp only[List.getElem_toArray,List.getElem_cons_zero,List.getElem_cons_succ,Act.put,List.setIfInBounds_toArray,List.set_cons_zero,List.set_cons_succ]
   refine BF hcl (i:=12) (by kernel_rfl) rfl rfl (fun K hK=>?_);go_simp;(with_reducible refine HAr.out.mono ?_);rintro e14 w14 ⟨v14,cl,rfl,hm14,hf14,hl14,k14⟩;obtain⟨A14,n14,c14,rfl, -, -⟩:=hm14.slice;refine hK _ _ (Aw (.inr (k14))) ?_;clear hK K;clear hcl hkn;intro hcl hkn
   try simp only[List.getElem_toArray,List.getElem_cons_zero,List.getElem_cons_succ,Act.put,List.setIfInBounds_toArray,List.set_cons_zero,List.set_cons_succ]
   refine AV (i:=13) rfl (by kernel_rfl) (by kernel_rfl) (by kernel_rfl) hcl hkn (by rfl) (fun _ _ _ h=>h) rfl (T0 84 #[(0,.tmp 64),(1,.tmp 75)] rfl _ _ (RI (BP q2) A6 A14 n6 c6 n14 c14 x7) (by simp[Act.eval,Act.put])) ?_;clear hcl hkn;intro hcl hkn
   try simp only[List.getElem_toArray,List.getElem_cons_zero,List.getElem_cons_succ,Act.put,List.setIfInBounds_toArray,List.set_cons_zero,List.set_cons_succ]
   refine BF hcl (i:=14) (by kernel_rfl) rfl rfl (fun K hK=>?_);refine JT (.tmp 76) rfl (nm:=BP q2) (A:=A6) (A2:=A14) (n:=n6) (c:=c6) (n2:=n14) (c2:=c14) (y:=x7) rfl ?_;refine hK _ _ (Aw (.inl (by kernel_rfl))) ?_;clear hK K;clear hcl hkn;intro hcl hkn
   try simp only[List.getElem_toArray,List.getElem_cons_zero,List.getElem_cons_succ,Act.put,List.setIfInBounds_toArray,List.set_cons_zero,List.set_cons_succ]
   refine BF hcl (i:=15) (by kernel_rfl) rfl rfl (fun K hK=>?_);refine Ks Tk (.tmp 63) (.tmp 77) rfl rfl ((HMR.out.grew (V13.out.grew.trans (gd2.trans k14))).alloc _) rfl (VW w14 84 (AQ (BP q2) (.slice A6 n6 c6) x7++[Value.slice A14 n14 c14]).toArray) (T4 _ _ _ _ _ _ _ _) rfl (by rw[HRs.out.1];have:=HSl.out;omega) (by have h1:=HSz.out;have h2:=(V13.out.grew.trans (gd2.trans k14)).size;simp only[World.size_alloc];omega) ?_;intro v16 w16 hM16 k16 ho16;obtain⟨A16,n16,c16,rfl, -, -⟩:=hM16.slice;refine hK _ _ (Aw (.inl (by kernel_rfl))) ?_;clear hK K;clear hcl hkn;intro hcl hkn
   try simp only[List.getElem_toArray,List.getElem_cons_zero,List.getElem_cons_succ,Act.put,List.setIfInBounds_toArray,List.set_cons_zero,List.set_cons_succ]
   refine BF hcl (i:=16) (by kernel_rfl) rfl rfl (fun K hK=>?_);go_simp;refine hK _ _ (Aw (.inl (by kernel_rfl))) ?_;clear hK K;clear hcl hkn;intro hcl hkn
   try simp only[List.getElem_toArray,List.getElem_cons_zero,List.getElem_cons_succ,Act.put,List.setIfInBounds_toArray,List.set_cons_zero,List.set_cons_succ]
   refine Ca (by kernel_rfl) ?_ _;clear hcl hkn;go_wp2_with fail;go_roundw
   case rel=>
    have hgr:=V13.out.grew.trans (gd2.trans k14);have hsr:QB w14 (J9 0 w.heap.size (.slice As ns ks) w14.heap.size) (((BP q2,N5 k2),x7),cl) (AQ (BP q2) (.slice A6 n6 c6) x7++[Value.slice A14 n14 c14]):=
     ⟨_,_,rfl,V13.out.lab.keep (S:=fun _=>False) (fun b hb=>⟨hb.2.1,(fun h=>h),.inr (by have:=HSz.out;omega),VA hb.2.1 (gd2.trans k14).size,fun e=>by have:=(HMR.out.lt b e).2;have:=hb.1;omega⟩) (gd2.trans k14),hm14.toQ.keep (S:=fun _=>False) (fun b hb=>⟨hb.2,(fun h=>h),.inr (by have h1:=HSz.out;have h2:=(V13.out.grew.trans gd2).size;have:=hb.1;omega),hb.2,fun e=>by have h1:=(HMR.out.lt b e).2;have h2:=(V13.out.grew.trans gd2).size;have:=hb.1;omega⟩) (VU _)⟩
    exact⟨j+1,ss++[(((BP q2,N5 k2),x7),cl)],_,by omega,by go_num,hM16,Gr.step Ny HRs.out HMR.out HSz.out hgr hsr k16 ho16,by rw[VR,HSl.out];rfl,(fun i s hs=>by
     by_cases hi:i<ss.length
     ·rw[List.getElem?_append_left hi]at hs;exact HSo.out i s hs
     rw[List.getElem?_append_right (by omega)]at hs;obtain rfl:i=j:=by have h1:=(VG.1 hs).1;have h2:=HSl.out;rw[List.length_singleton]at h1;omega
     rw[HSl.out,Nat.sub_self]at hs;obtain rfl:(((BP q2,N5 k2),x7),cl)=s:=by simpa using hs
     exact⟨by rw[HK2.out.2],by rw[HK2.out.1],HTn.out.1,HTn.out.2.1,HTn.out.2.2,hf14,hl14⟩),VV ((HG.out.trans hgr).alloc _) k16 fun i hi e=>by have:=(HMR.out.lt i e).1;omega⟩
   case measure=>simp[intOf];omega
  obtain rfl:j=m0+1:=by omega
  have t0:decide (((m0+1:Nat):Int)≤(m0:Int))=false:=by simp;omega
  go_wp2_with(go_at_call 23;(with_reducible refine(HP1.out _ HG.out).mono ?_);rintro e0 wx ⟨rfl,hwx⟩;rw[hwx];clear hwx wx);go_ret;exact⟨_,b0,ss,rfl,Gr.read HMR.out (HRs.out.keep (S:=fun _=>False) Ny (fun b hb=>⟨hb.2.1,fun h=>h,hb.2.1⟩) (VU _)) (fun b hb=>(HMR.out.lt b hb).2),by have:=HSl.out;omega,by have:=HSl.out;omega,HSo.out,HG.out⟩
end Go.Proofs.YthpflelgbadkcaaGreatDoor
namespace Go.Proofs.YthpflelgbadkcaaGreatDoor
open Go.RowKit Pl
theorem Ia {sz:Nat}:∀{rows:List (List Value)} {j k:Nat} {cs vs:List Value},I0 sz rows→rows[j]? =some cs→k+vs.length≤sz→rows.flatten.take (j*sz+k)++vs++rows.flatten.drop (j*sz+k+vs.length)=(rows.set j (cs.take k++vs++cs.drop (k+vs.length))).flatten
 |r::rs,0,k,cs,vs,h,hj,hk=>by
  obtain rfl:r=cs:=by simpa using hj
  have hl:=h r List.mem_cons_self;rw[Nat.zero_mul,Nat.zero_add,List.set_cons_zero,List.flatten_cons,List.flatten_cons,List.take_append_of_le_length (by omega),List.drop_append_of_le_length (by omega)];simp only[List.append_assoc]
 |r::rs,j+1,k,cs,vs,h,hj,hk=>by
  have hl:=h r List.mem_cons_self;have ih:=Ia (fun r hr=>h r (List.mem_cons_of_mem _ hr)) (show rs[j]? =some cs by simpa using hj) hk;rw[List.set_cons_succ,List.flatten_cons,List.flatten_cons,←ih,List.take_append,List.drop_append,Nat.succ_mul];rw[List.take_of_length_le (by omega),List.drop_of_length_le (by omega),show j*sz+sz+k-r.length=j*sz+k by omega,show j*sz+sz+k+vs.length-r.length=j*sz+k+vs.length by omega];simp only[List.append_assoc,List.nil_append]
theorem Le {sz j k:Nat} {rows:List (List Value)} {cs vs:List Value} (h:I0 sz rows) (hj:rows[j]? =some cs) (hk:k+vs.length≤sz):I0 sz (rows.set j (cs.take k++vs++cs.drop (k+vs.length))):=fun r hr=>by
 have hl:=h cs (VJ hj);rcases List.mem_or_eq_of_mem_set hr with h1|rfl
 ·exact h r h1
 simp;omega
theorem UR {P:Program} {ops:Array Oper} {rest:List Oper} {o:Oper} {a:Act} {Q:Exit→Act→World→Prop} {w:World} (T:TypeId) (x y:Operand) {base:Nat} {e:TypeId} {sz g n c j k:Nat} {rows:List (List Value)} {cs vs:List Value} (hT:(P.info? T).map (·.size)=some vs.length) (h1:∀v∈vs,v.oneCell'=true) (hgd:o.guard=none) (ho:o.op= .store T x y)
  (hx:a.eval x= .pointer (some ⟨g,j*sz+k,none⟩)) (hy:a.eval y= .agg vs.toArray) (hM:B8 w base e sz (.slice (some ⟨g,0,none⟩) n c) rows) (hj:rows[j]? =some cs) (hk:k+vs.length≤sz)
  (h:∀w',B8 w' base e sz (.slice (some ⟨g,0,none⟩) n c) (rows.set j (cs.take k++vs++cs.drop (k+vs.length)))→AA (fun i=>i=g) w w'→wpList P ops Q rest (a.put o.dst undef) w'):wpList P ops Q (o::rest) a w:=by
 have he:=hM.2;have hjl:=(VG.1 hj).1;rcases hM.form with⟨h0, -⟩|⟨g',cap,cur,h0,hb,hbox,hn,hcap,hsz,htk⟩
 ·injection h0 with h0;cases h0
 injection h0 with e1 e2 e3;injection e1 with e1;injection e1 with e1;subst e1 e2 e3;have hfl:=CV he;have hmul:j*sz+sz≤rows.length*sz:=by rw[←Nat.succ_mul];exact Nat.mul_le_mul_right _ hjl
 have hmul2:rows.length*sz≤c*sz:=Nat.mul_le_mul_right _ hn;have hbx:AR w g e cur.toList.toArray:=by rw[Array.toArray_toList];exact hbox
 have hcl:cur.toList.length=c*sz:=by rw[Array.length_toList,hsz]
 refine wpList_store_mid hgd T x y ho g (j*sz+k) vs.toArray hx hy (by simpa using hbx.thereN (j*sz+k) vs.length (by omega)) (by simpa using hT) (all_oneCell_toArray h1) ?_;have hp:=hbx.putN vs (j*sz+k) (by omega);refine h _ ⟨⟨?_,.inr ⟨g,c,_,?_,hb,hp,?_,hcap,?_,?_⟩⟩,Le he hj hk⟩ (C3 g vs (j*sz+k) w).1
 ·rw[CV (Le he hj hk)]
 ·rw[List.length_set]
 ·rw[List.length_set];exact hn
 ·simp;omega
 rw[List.length_set];show List.take (rows.length*sz) _=_;rw[←Ia he hj hk,←htk];have hsp:cur.toList=cur.toList.take (rows.length*sz)++cur.toList.drop (rows.length*sz):=(List.take_append_drop _ _).symm;generalize hF:cur.toList.take (rows.length*sz)=F at*;have hFl:F.length=rows.length*sz:=by rw[←hF,List.length_take,hcl];omega
 generalize cur.toList.drop (rows.length*sz)=R at*;have t1:(F++R).take (j*sz+k)=F.take (j*sz+k):=List.take_append_of_le_length (by omega);have t2:(F++R).drop (j*sz+k+vs.length)=F.drop (j*sz+k+vs.length)++R:=List.drop_append_of_le_length (by omega);rw[hsp,t1,t2];have hlen:(F.take (j*sz+k)++vs++F.drop (j*sz+k+vs.length)).length=rows.length*sz:=by simp;omega
 show List.take (rows.length*sz) (F.take (j*sz+k)++vs++(F.drop (j*sz+k+vs.length)++R))=_;rw[←List.append_assoc,List.take_append_of_le_length (by omega),List.take_of_length_le (by omega)]
end Go.Proofs.YthpflelgbadkcaaGreatDoor
namespace Go.Proofs.YthpflelgbadkcaaGreatDoor
open Go.RowKit Go.Shelf Pl
abbrev Dx:=Dc×(Fin 10→Int)
def Q6 (w:World) (Q:Nat→Prop) (d:Dx) (cs:List Value):Prop:=∃A n c,cs=AQ d.1.1 (.slice A n c) d.2∧Ba w Q 2 (.slice A n c) (d.1.2.map Bi)
theorem LD:KC Q6:=fun _ _ _ _ _ _ _ h hq hk=>by
 obtain⟨A,n,c,h1,h2⟩:=h;exact⟨A,n,c,h1,h2.keep hq hk⟩
def SD:List Value:=AQ ⟨#[]⟩ (.slice none 0 0) fun _=>0
theorem Ti:My Tryz.prog 39 54 12 120 (.agg SD.toArray):=⟨Tryz.underlying39,by kernel_rfl,rfl,by decide,by decide⟩
theorem NI (nm:ByteArray) (A:Option Addr) (n c:Nat) (x:Fin 10→Int):Instr.fill (fun i=>some (i*12,12)) ((Array.range (1*12)).map ((Value.agg SD.toArray).cells[·%(Value.agg SD.toArray).cells.size]!)) [(0,.agg (AQ nm (.slice A n c) x).toArray)]=some (AQ nm (.slice A n c) x).toArray:=by kernel_rfl
theorem JL {o:Oper} {a:Act} {w:World} {K:Act→World→Prop} {Q:Exit→Act→World→Prop} (x:Operand) (ho:o.op= .buildSlice 39 1 #[(0,x)]) {nm:ByteArray} {A:Option Addr} {n c:Nat} {y:Fin 10→Int} (hx:a.eval x= .agg (AQ nm (.slice A n c) y).toArray)
  (h:K (a.put o.dst (.slice (some ⟨w.heap.size,0,none⟩) 1 1)) (w.alloc (.cells (AQ nm (.slice A n c) y).toArray 54))):o.wp Tryz.prog a w K Q:=by
 obtain⟨i,hi,hz,hs,hby⟩:=info_parts Ti.info;refine wp_buildSlice 39 54 1 #[(0,x)] ho (AQ nm (.slice A n c) y).toArray i (.agg SD.toArray) Tryz.underlying39 hi hz (by rw[hs];decide) (by rw[hs];decide) ?_ h;rw[hs];simp only[List.map_toArray,List.map_cons,List.map_nil,hx];exact NI nm A n c y
def Lt (ss:List Sr) (w:World) (e:Ending) (w':World):Prop:=∃v rows,e= .returned v∧B8 w' w.heap.size 54 12 v rows∧Gr Q6 w' (fun b=>b<w.heap.size) (ss.map (·.1)) rows∧A4 w w'
theorem LQ (w:World) (v:Value) (ss:List Sr) (h:GZ QB 13 w (fun b=>b<w.heap.size) v ss) (hn:ss.length≤1000):
  Calls Tryz.prog 21 #[v] w (Lt ss w):=by
 obtain⟨A,n,c,rfl,hnn, -⟩:=h.slice;have HN:=V3 hnn;have hn1:n≤1000:=by omega
 have HS:=V3 h;clear h hnn hn;go_enter Tryz.func21,Tryz.ntmps21;go_wp2_with fail;go_loopw [3,4] (fun so i wr=>∃(j:Nat) (rows:List (List Value)),j≤n∧i= .int .i64 (j:Nat)∧B8 wr w.heap.size 54 12 so rows∧Gr Q6 wr (fun b=>b<w.heap.size) ((ss.take j).map (·.1)) rows∧A4 w wr) (fun _ i _=>n-(intOf i).toNat)
 case atStart=>exact⟨0,[],by omega,rfl,B8.nil _ _ _ _,Gr.nil _ _,VU _⟩
 case round=>
  obtain⟨j,rows,hj,rfl,hM,hR,hG⟩:=hrel;obtain⟨As,ns,ks,rfl, -, -⟩:=hM.slice;have HM:=V3 hM;have HR:=V3 hR;have HG:=V3 hG;have HSz:=V3 hG.size;clear hM hR hG;by_cases hlt:j<n
  ·obtain⟨s,hs⟩:∃s,ss[j]? =some s:=⟨_,VB (by rw[←HN.out];exact hlt)⟩;obtain⟨b,o,cs,hA,hbl,hrg,vl,vc,hcs,hlb, -⟩:=HS.out.at_ hs;subst hA;obtain⟨AL,nL,cL,rfl, -, -⟩:=hlb.slice;have hrw:=AU (S:=fun _=>False) hrg hbl HG.out (fun h=>h);have HRw:=V3 (show wr.rangeAt b (o+j*13) (AQ s.1.1.1 (.slice AL nL cL) s.1.2)from fun k u hk=>hrw k u (by rw[hcs];exact(List.getElem?_append_left (VG.1 hk).1).trans hk));have HLb:=V3 (hlb.keep (S:=fun _=>False) (Q':=fun b=>b<w.heap.size) (fun b hb=>⟨hb,fun h=>h,hb⟩) HG.out);have HSt:=V3 (show(ss.take (j+1)).map (·.1)=(ss.take j).map (·.1)++[s.1] by
    have hk:=(VG.1 hs).1;have hd:=(VG.1 hs).2;rw[←List.take_append_getElem hk,hd,List.map_append];rfl)
   have HLen:=V3 (show rows.length≤1000 from by rw[HR.out.1,List.length_map,List.length_take];omega);clear hs hrg hrw hlb hcs hbl;go_wp2_with(first|((with_reducible refine AF 54 (.tmp 15) rfl ?_);refine wpList_load_mid rfl 54 (.tmp 15) rfl b (o+j*13) rfl (AQ s.1.1.1 (.slice AL nL cL) s.1.2) _ HRw.out Tryz.underlying54 rfl FA ?_)|((with_reducible refine RN 39 1 (.tmp 16) rfl ?_);refine wpList_plain rfl fun K hK=>?_;refine JL (.tmp 16) rfl (nm:=s.1.1.1) (A:=AL) (n:=nL) (c:=cL) (y:=s.1.2) rfl ?_;refine hK _ _ ?_;clear hK K)|((with_reducible refine QA 39 (.tmp 11) (.tmp 17) rfl ?_);refine wpList_plain rfl fun K hK=>?_;refine Ks Ti (.tmp 11) (.tmp 17) rfl rfl (HM.out.alloc _) rfl (VW wr 54 (AQ s.1.1.1 (.slice AL nL cL) s.1.2).toArray) (LE _ _ _ _ _) rfl (by have:=HLen.out;omega) (by have:=HSz.out;simp only[World.size_alloc];omega) ?_;intro v8 w8 hM8 k8 ho8;obtain⟨A8,n8,q8,rfl, -, -⟩:=hM8.slice;have HM8:=V3 hM8;have HK8:=V3 k8;refine hK _ _ ?_;clear hK K hM8 k8 ho8));go_roundw
   case rel=>
    have hal:A4 wr (wr.alloc (.cells (AQ s.1.1.1 (.slice AL nL cL) s.1.2).toArray 54)):=(VU wr).alloc _;have hns:∀b,b<w.heap.size→¬(Value.slice As ns ks).ownBlock=some b:=fun b hb e=>by have:=(HM.out.lt b e).1;omega
    exact⟨j+1,_,by omega,by go_num,HM8.out,by
     rw[HSt.out];refine Gr.snoc (HR.out.keep (S:=fun i=>(Value.slice As ns ks).ownBlock=some i) LD (fun b hb=>⟨by have:=HSz.out;omega,hns b hb,hb⟩) (VV (hal.keeps (S:=fun i=>(Value.slice As ns ks).ownBlock=some i)) HK8.out fun i _ h=>h)) ⟨AL,nL,cL,rfl,HLb.out.keep (S:=fun i=>(Value.slice As ns ks).ownBlock=some i) (fun b hb=>⟨by have:=HSz.out;omega,hns b hb,hb⟩) (VV (hal.keeps (S:=fun i=>(Value.slice As ns ks).ownBlock=some i)) HK8.out fun i _ h=>h)⟩,VV (HG.out.alloc _) HK8.out fun i hi e=>by have:=(HM.out.lt i e).1;omega⟩
   case measure=>simp[intOf];omega
  obtain rfl:n=j:=by omega
  go_wp2_with fail;go_ret;exact⟨_,rows,rfl,HM.out,by have h:=HR.out;rw[show ss.take n=ss from List.take_of_length_le (by rw[←HN.out];exact V6 _)]at h;exact h,HG.out⟩
end Go.Proofs.YthpflelgbadkcaaGreatDoor
