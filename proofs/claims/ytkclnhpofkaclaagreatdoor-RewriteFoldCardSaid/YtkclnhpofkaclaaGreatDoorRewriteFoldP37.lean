/- What the card of the law stands on: Rwr, ParF, RangeW, InN. -/
import Derived.Test.YtkclnhpofkaclaaGreatDoorRewriteFoldP01
import Derived.Test.YtkclnhpofkaclaaGreatDoorRewriteFoldP36
import Derived.Test.YtkclnhpofkaclaaGreatDoorRewriteFoldP27
import Derived.RangeFuncNested
import Derived.RangeFuncBound
import Derived.RangeFuncCalls
import Derived.RangeFuncLeaves
import Derived.Test.YtkclnhpofkaclaaGreatDoorRewriteFoldP10
import Derived.OwnWalkIn
set_option maxRecDepth 100000
set_option maxHeartbeats 12800000
set_option linter.unusedVariables false
set_option linter.unusedSimpArgs false
namespace Go.Proofs.YtkclnhpofkaclaaGreatDoor
open Go.RowKit Pl
theorem Qn (e:Ex) (hn:AD e≤1000000) (hok:Aw B1 e) (hs:Ej e) (hv:CA e=0) (hN:Aw B1 (Ad e)) (w:World) (cs:List Value) (hwt:Cy w) (hot:Dt w) (hr:BC w w.heap.size e cs):
  Calls Tryz.prog 46 #[.agg cs.toArray] w (E1 w 0 (Ad e)):=by
 have hone:∀v∈cs,v.oneCell'=true:=AQ (BC.toQ (Q:=fun _=>True) (fun _ _=>trivial) e cs hr);obtain⟨vm,vb,vk,rfl, -⟩:=hr.open_;obtain⟨hb1,hb2,hG⟩:=BI w 29 29 (A8 e vm vb vk).toArray (AE 0 0).toArray;have hs2:((w.alloc (.cells (A8 e vm vb vk).toArray 29)).alloc (.cells (AE 0 0).toArray 29)).heap.size=w.heap.size+2:=by simp
 have HR:=UX (fun w' (g:A5 w w')=>hr.grew g);have HVd:=UX (fun w' (g:A5 w w')=>Fw e hn hok w' (A8 e vm vb vk) (hwt.grew g) (hr.grew g));rw[hv]at HVd;have HT:=UX (fun w' (g:A5 w w')=>UZ (hwt.grew g) (hot.keep g (fun h=>h)));have HSO:=UX hs;have HNN:=UX hN;have HOK:=UX hok;have HN:=UX hn;clear hr hok hn hwt hot hs hN hv;go_enter Tryz.func46,Tryz.ntmps46;go_upto_region 1 with fail;change Code.wp _ _ _ _ ((w.alloc (.cells (A8 e vm vb vk).toArray 29)).alloc (.cells (AE 0 0).toArray 29));generalize (w.alloc (.cells (A8 e vm vb vk).toArray 29)).alloc (.cells (AE 0 0).toArray 29)=w1 at*;have HS:=UX hs2;have HG:=UX hG;clear hs2 hG;go_upto_region 3 with(first|(refine lN (.tmp 1) hb1 rX ?_)|(go_at_call 17;(with_reducible refine(HVd.out _ HG.out).mono ?_);rintro e3 w3 ⟨rfl,k3⟩)|fail);have hb3:=hb1.grew k3;have hb4:=hb2.grew k3;have HG3:=UX (HG.out.trans k3);have hs3:=k3.size;have HS3:=UX (show w.heap.size+2≤w3.heap.size by have:=HS.out;omega);have HSi:=UX (II (AD e) e (Ua _) HN.out HSO.out w3 w3.heap.size (A8 e vm vb vk) (HT.out _ HG3.out).1 (HT.out _ HG3.out).2 (Ua _) (HR.out w3 HG3.out));have HSe:=UX (fun w' cs' (h:BC w' w'.heap.size (Ad e) cs')=>I1 (AD (Ad e)) (Ad e) (Ua _) (Ue (F3 (AD e) e (Ua _) HSO.out).2 HN.out) HNN.out w' cs' h);clear hb1 hb2 k3 hs3 HVd;go_wp2_with(first|(refine lN (.tmp 1) hb3 rX ?_)|(go_at_call 19;(with_reducible refine HSi.out.mono ?_);rintro e4 w4 ⟨Y,rfl,hrY,k4⟩;have HY:=UX (AN.toB (B:=w4.heap.size) (fun b hb=>hb.2) _ _ hrY);clear hrY;have hs4:=k4.size;have HS4:=UX (Ue HS3.out hs4);clear hs4)|(go_at_call 18;(with_reducible refine(HSe.out _ _ HY.out).mono ?_);rintro e5 w5 ⟨X,rfl,hrX,k5⟩;have hX1:=AQ hrX;have hXl:X.length=11:=(by obtain⟨a,b,c,h, -⟩:=hrX.open_;rw[h];rfl);have HX:=UX hrX;have HXl:=UX hXl;clear hrX hXl;have hb5:=hb4.grew (k4.trans k5))|(refine sN (.tmp 2) (.tmp 10) X hb5 rX ?_ (hl:=HXl.out) (h1:=hX1);intro w8 hb8 k8 d8)|fail);refine rO rX hb8 ?_ (hl:=HXl.out);refine⟨X,rfl,?_,Uw (HG3.out.trans (k4.trans k5)) k8 (fun i hi e=>by omega)⟩;exact Ck k8 (Nat.zero_le _) HS4.out HX.out
theorem Mk {g:Nat} {n:Int} {us:List Bw} {e:Ex} {w w1 w2 w8:World} {cs:List Value} (hs:w1.heap.size=w.heap.size+1) (hg:g<w.heap.size) (hG:A5 w w1) (hr:AN w2 (C9 0 w1.heap.size w2.heap.size) e cs) (hp:Cu w2 g n us) (hk:Dl g w1 w2) (k8:A4 (fun i=>i=w.heap.size) w2 w8):AN w8 (C9 0 w.heap.size w8.heap.size) e cs∧Cu w8 g n us∧Dl g w w8:=by
 have hsz:=k8.size;exact⟨AN.keep (fun b hb=>⟨hb.2,by have:=hb.1;omega,.inr (by have:=hb.1;omega),Ub hb.2 hsz⟩) k8 _ _ hr,hp.keep k8 (fun i hi e=>by omega),Uw (Uw (V2 hG) hk fun i hi e=>e) k8 fun i hi e=>by omega⟩
theorem Q6 (K g:Nat) (n:Int) (hlow:K4 g) (HIH:∀k,k≤K→∀ts e us,C6 k 1 ts=some (e,us)→∀w,Cu w g n ts→Ct w→Calls Tryz.prog 119 #[.pointer (some ⟨g,0,none⟩)] w (CY g n us e w))
  (ts us:List Bw) (e:Ex) (hp:C6 (K+1) 0 ts=some (e,us)) (w:World) (h:Cu w g n ts) (ht:Ct w):
  Calls Tryz.prog 78 #[.pointer (some ⟨g,0,none⟩)] w (CY g n us e w):=by
 rw[C6]at hp;cases hpp:C6 K 1 ts with
 |none=>rw[hpp]at hp;cases hp
 |some p=>
  obtain⟨e1,us1⟩:=p;rw[hpp]at hp;dsimp only at hp;have hb0:=Ux w 29 (AE 0 0).toArray;have hg0:=(Uv w).alloc (.cells (AE 0 0).toArray 29);have hs0:(w.alloc (.cells (AE 0 0).toArray 29)).heap.size=w.heap.size+1:=by simp
  have HO:=UX (Ph K g n hlow HIH ts us1 us e1 e hpp hp _ (h.grew hg0) (ht.keep hlow hg0 (fun _ _ h=>h)));have HS:=UX (UZ hs0 h.lt);clear hs0 h ht hp hpp HIH;go_enter Tryz.func78,Tryz.ntmps78;go_upto_region 1 with fail;change Code.wp _ _ _ _ (w.alloc (.cells (AE 0 0).toArray 29));generalize w.alloc (.cells (AE 0 0).toArray 29)=w1 at*;have HG:=UX hg0;have HB0:=UX hb0;clear hg0 hb0;go_wp2_with(first|(go_at_call 118;(with_reducible refine HO.out.mono ?_);rintro e3 w2 ⟨cs1,rfl,hr1,hp2,hk2⟩;have h1l:=CF hr1;have h1o:=AQ hr1;have hb2:=HB0.out.keep hk2 (by have:=HS.out;omega);have HR:=UX (UZ hr1 (UZ hp2 hk2));have HL:=UX h1l;clear hr1 hp2 hk2)|(refine sN (.tmp 2) (.tmp 6) cs1 hb2 rX ?_ (hl:=h1l) (h1:=h1o);intro w8 hb8 k8 d8)|fail);refine rO rX hb8 ?_ (hl:=HL.out);obtain⟨h1,h2,h3⟩:=Mk HS.out.1 HS.out.2 HG.out HR.out.1 HR.out.2.1 HR.out.2.2 k8;exact⟨cs1,rfl,h1,h2,h3⟩
theorem O5 (K g:Nat) (n:Int) (hlow:K4 g) (HIH:∀k,k≤K→∀ts e us,C6 k 2 ts=some (e,us)→∀w,Cu w g n ts→Ct w→Calls Tryz.prog 153 #[.pointer (some ⟨g,0,none⟩)] w (CY g n us e w))
  (ts us:List Bw) (e:Ex) (hp:C6 (K+1) 1 ts=some (e,us)) (w:World) (h:Cu w g n ts) (ht:Ct w):
  Calls Tryz.prog 119 #[.pointer (some ⟨g,0,none⟩)] w (CY g n us e w):=by
 rw[C6]at hp;cases hpp:C6 K 2 ts with
 |none=>rw[hpp]at hp;cases hp
 |some p=>
  obtain⟨e1,us1⟩:=p;rw[hpp]at hp;dsimp only at hp;have hb0:=Ux w 29 (AE 0 0).toArray;have hg0:=(Uv w).alloc (.cells (AE 0 0).toArray 29);have hs0:(w.alloc (.cells (AE 0 0).toArray 29)).heap.size=w.heap.size+1:=by simp
  have HO:=UX (P8 K g n hlow HIH ts us1 us e1 e hpp hp _ (h.grew hg0) (ht.keep hlow hg0 (fun _ _ h=>h)));have HS:=UX (UZ hs0 h.lt);clear hs0 h ht hp hpp HIH;go_enter Tryz.func119,Tryz.ntmps119;go_upto_region 1 with fail;change Code.wp _ _ _ _ (w.alloc (.cells (AE 0 0).toArray 29));generalize w.alloc (.cells (AE 0 0).toArray 29)=w1 at*;have HG:=UX hg0;have HB0:=UX hb0;clear hg0 hb0;go_wp2_with(first|(go_at_call 118;(with_reducible refine HO.out.mono ?_);rintro e3 w2 ⟨cs1,rfl,hr1,hp2,hk2⟩;have h1l:=CF hr1;have h1o:=AQ hr1;have hb2:=HB0.out.keep hk2 (by have:=HS.out;omega);have HR:=UX (UZ hr1 (UZ hp2 hk2));have HL:=UX h1l;clear hr1 hp2 hk2)|(refine sN (.tmp 2) (.tmp 6) cs1 hb2 rX ?_ (hl:=h1l) (h1:=h1o);intro w8 hb8 k8 d8)|fail);refine rO rX hb8 ?_ (hl:=HL.out);obtain⟨h1,h2,h3⟩:=Mk HS.out.1 HS.out.2 HG.out HR.out.1 HR.out.2.1 HR.out.2.2 k8;exact⟨cs1,rfl,h1,h2,h3⟩
theorem Pr (K g:Nat) (n:Int) (hlow:K4 g) (HIH:∀k,k≤K→∀ts e us,C6 k 0 ts=some (e,us)→∀w,Cu w g n ts→Ct w→Calls Tryz.prog 78 #[.pointer (some ⟨g,0,none⟩)] w (CY g n us e w))
  (ts us:List Bw) (e:Ex) (hp:C6 (K+1) 2 ts=some (e,us)) (w:World) (h:Cu w g n ts) (ht:Ct w):
  Calls Tryz.prog 153 #[.pointer (some ⟨g,0,none⟩)] w (CY g n us e w):=by
 rw[Lf]at hp;rcases ts with _|⟨⟨tk,tt,tn,tf⟩,ts⟩
 ·cases hp
 dsimp only at hp;have hb0:=Ux w 29 (AE 0 0).toArray;have hg0:=(Uv w).alloc (.cells (AE 0 0).toArray 29);have hs0:(w.alloc (.cells (AE 0 0).toArray 29)).heap.size=w.heap.size+1:=by simp
 have hg:=h.lt;have hp1:=h.grew hg0;have ht1:Ct (w.alloc (.cells (AE 0 0).toArray 29)):=ht.keep hlow hg0 (fun _ _ h=>h);have HS:=UX (UZ hs0 hg);have HPP:=UX hp;have HI:=UX HIH;have HLow:=UX hlow;clear hs0 h ht hp HIH hg hlow;go_enter Tryz.func153,Tryz.ntmps153;go_upto_region 1 with fail;change Code.wp _ _ _ _ (w.alloc (.cells (AE 0 0).toArray 29));generalize w.alloc (.cells (AE 0 0).toArray 29)=w1 at*;have HG:=UX hg0;have HB0:=UX hb0;have HP1:=UX hp1;have HT1:=UX ht1;have HKN:=UX (show Calls Tryz.prog 168 #[.pointer (some ⟨g,0,none⟩),.int .i64 1] w1 (fun e w'=>e= .returned (.bool (decide (tk=1)))∧w1=w')from(FO w1 g n _ 1 hp1).mono fun _ _ h=>⟨h.1,h.2.symm⟩);have HKW:=UX (show Calls Tryz.prog 168 #[.pointer (some ⟨g,0,none⟩),.int .i64 0] w1 (fun e w'=>e= .returned (.bool (decide (tk=0)))∧w1=w')from(FO w1 g n _ 0 hp1).mono fun _ _ h=>⟨h.1,h.2.symm⟩);have HTk:=UX (show Calls Tryz.prog 167 #[.pointer (some ⟨g,0,none⟩)] w1 (fun e w'=>e= .returned (.agg #[.int .i64 (tk:Nat),.string tt,.int .i64 (tn:Nat),.int .i64 (tf:Nat)])∧Cu w' g n ts∧Dl g w1 w')from ES w1 g n ⟨tk,tt,tn,tf⟩ ts hp1);clear hg0 hb0 hp1 ht1;have hp:=HPP.out;by_cases hk1:tk=1
 ·rw[Uo hk1]at hp;rw[show decide (tk=1)=true by simpa using hk1]at HKN;simp only[Ur,Uq]at hp;obtain⟨rfl,rfl⟩:=hp;have hfd:=fun w'=>M4 w' (tk:Nat) tt (tn:Nat) (tf:Nat)
  clear hk1 HKW HI HPP;go_wp2_with(first|(go_at_call 168;(with_reducible refine HKN.out.mono ?_);rintro e3 w9 ⟨rfl,rfl⟩)|(go_at_call 167;(with_reducible refine HTk.out.mono ?_);rintro e3 w2 ⟨rfl,hp2,hk2⟩;have hb2:=HB0.out.keep hk2 (by have:=HS.out;omega);have HR:=UX (UZ hp2 hk2);clear hp2 hk2)|(refine sN (.tmp 2) (.tmp 12) (AE (tn:Nat) 1) hb2 rX ?_;intro w8 hb8 k8 d8)|fail);refine rO rX hb8 ?_;have hS:=HS.out;exact⟨AE (tn:Nat) 1,rfl,AN.mk_ (e:=Ay (tn:Nat) 1) (BE.nil _ _ _) (BE.nil _ _ _) (Ca.nil _ _),HR.out.1.keep k8 (fun i hi e=>by omega),Uw (Uw (V2 HG.out) HR.out.2 fun i hi e=>e) k8 fun i hi e=>by omega⟩
 rw[Un hk1]at hp;rw[show decide (tk=1)=false by simpa using hk1]at HKN;by_cases hpar:Ey (⟨tk,tt,tn,tf⟩::ts) 3 ⟨#[40]⟩=true
 ·rw[Uo hpar]at hp;cases hpp:C6 K 0 ts with
  |none=>rw[hpp]at hp;cases hp
  |some p=>
   obtain⟨e1,us1⟩:=p;rw[hpp]at hp;dsimp only at hp;by_cases hcl:Ey us1 3 ⟨#[41]⟩=true
   ·rw[Uo hcl]at hp;obtain⟨t2,us2,rfl⟩:=DB hcl;simp only[Ur,Uq,List.tail_cons]at hp;obtain⟨rfl,rfl⟩:=hp;have HTy:=UX (EM w1 g n _ ts ⟨#[40]⟩ HP1.out hpar);have HC:=UX (fun w' (h:Cu w' g n ts) ht=>HI.out K (Ua _) ts e1 (t2::us2) hpp w' h ht);have HSy:=UX (fun w' (h:Cu w' g n (t2::us2))=>Im w' g n t2 us2 ⟨#[41]⟩ h hcl);clear hk1 hpar hpp hcl HKW HTk HI HPP;go_upto_region 4 with(first|(go_at_call 168;(with_reducible refine HKN.out.mono ?_);rintro e3 w9 ⟨rfl,rfl⟩)|(go_at_call 152;(with_reducible refine HTy.out.mono ?_);rintro e3 w2 ⟨rfl,hp2,hk2⟩;have HR2:=UX (UZ hp2 hk2);clear hp2 hk2));go_upto_region 5 with(first|(go_at_call 78;(with_reducible refine(HC.out _ HR2.out.1 (HT1.out.keep HLow.out HR2.out.2 (fun i hi e=>by omega))).mono ?_);rintro e3 w3 ⟨cs1,rfl,hr3,hp3,hk3⟩;have h1l:=CF hr3;have h1o:=AQ hr3;have HR3:=UX (UZ hr3 (UZ hp3 (UZ hk3 (UZ h1l h1o))));clear hr3 hp3 hk3)|(refine sN (.tmp 3) (.tmp 16) cs1 (Ux w3 29 _) rX ?_ (hl:=h1l) (h1:=h1o) (us:=(AE 0 0));intro w4 hb4 k4 d4;have HG4:=UX (show A5 w3 w4 from Uw ((Uv w3).alloc _) k4 (fun i hi e=>by omega));have HB4:=UX hb4;clear k4 d4 hb4 h1o h1l)|fail);have hs3:=HR3.out.2.2.1.size;have hs2:=HR2.out.2.size;go_upto_region 6 with(go_at_call 169;(with_reducible refine(HSy.out _ (HR3.out.2.1.grew HG4.out)).mono ?_);rintro e3 w5 ⟨rfl,hp5,hk5⟩;have hb5:=HB4.out.keep hk5 (by have:=HS.out;omega);have HR5:=UX (UZ hp5 hk5);clear hp5 hk5);have k15:A4 (fun i=>i=g) w1 w5:=Uw (A4.grew (Uw HR2.out.2 HR3.out.2.2.1 fun i _ h=>h) HG4.out) HR5.out.2 fun i _ h=>h
    have hb05:=HB0.out.keep k15 (by have:=HS.out;omega);have hl:=HR3.out.2.2.2.1;have ho:=HR3.out.2.2.2.2;have HK15:=UX k15;clear k15;go_wp2_with(first|(refine lN (.tmp 3) hb5 rX ?_ (hl:=hl))|(refine sN (.tmp 2) (.tmp 19) cs1 hb05 rX ?_ (hl:=hl) (h1:=ho);intro w8 hb8 k8 d8)|fail);refine rO rX hb8 ?_ (hl:=HR3.out.2.2.2.1);have hs4:=HG4.out.size;have hs5:=HR5.out.2.size;have hs:=HS.out;have hr5:AN w5 (C9 0 w1.heap.size w5.heap.size) e1 cs1:=AN.keep (S:=fun i=>i=g) (fun b hb=>⟨hb.2,by have:=hb.1;omega,.inr (by have:=hb.1;omega),by have:=hb.2;omega⟩) (Uw (V2 HG4.out) HR5.out.2 fun i _ h=>h) _ _ HR3.out.1;obtain⟨h1,h2,h3⟩:=Mk HS.out.1 HS.out.2 HG.out hr5 HR5.out.1 HK15.out k8;exact⟨cs1,rfl,h1,h2,h3⟩
   rw[Un hcl]at hp;cases hp
 rw[Un hpar]at hp;by_cases hk0:tk=0
 ·rw[Uo hk0]at hp;rw[show decide (tk=0)=true by simpa using hk0]at HKW;by_cases hgrp:H5 C0 tt=true
  ·rw[Uo hgrp]at hp;cases hp
  rw[Un hgrp]at hp;have hsel:∃(f wd:Nat),e=E5 (f:Nat) (wd:Nat) tt:=by
   unfold MO at hp;split at hp
   ·cases hp
   split at hp
   ·split at hp
    ·cases hp
    split at hp
    ·cases hp
    simp only[Ur,Uq]at hp;exact⟨_,_,hp.1.symm⟩
   split at hp
   ·cases hp
   simp only[Ur,Uq]at hp;exact⟨0,0,hp.1.symm⟩
  obtain⟨f,wd,rfl⟩:=hsel;have HTn:=UX ((Ei w1 g n _ ⟨#[40]⟩ HP1.out (by simpa using hpar)).mono (fun _ w' h=>show _∧w1=w' from⟨h.1,h.2.symm⟩));have HIx:=UX (show ∀w',Ct w'→Calls Tryz.prog 127 #[.slice (some ⟨0,0,none⟩) 5 5,.string tt] w' (GN C0 tt w')from fun w' h=>JH _ C0 tt w' h.1.rd (by decide));have HSe:=UX (fun w' (h:Cu w' g n ts) (ht:Ct w')=>QN w' g n tt ts us f wd h ht.2.1 HLow.out.2.2 hp);have hfd:=fun w'=>PM w' (tk:Nat) tt (tn:Nat) (tf:Nat)
  have HGR:=UX (show H5 C0 tt=false by simpa using hgrp);clear hk1 hpar hk0 hgrp hp HI HPP;go_upto_region 10 with(first|(go_at_call 168;(first|(with_reducible refine HKN.out.mono ?_)|(with_reducible refine HKW.out.mono ?_));rintro e3 w9 ⟨rfl,rfl⟩)|(go_at_call 152;(with_reducible refine HTn.out.mono ?_);rintro e3 w9 ⟨rfl,rfl⟩)|(go_at_call 167;(with_reducible refine HTk.out.mono ?_);rintro e3 w2 ⟨rfl,hp2,hk2⟩;have HR2:=UX (UZ hp2 hk2);clear hp2 hk2));have ht2:Ct w2:=HT1.out.keep HLow.out HR2.out.2 (fun i hi e=>by omega);have HT2:=UX ht2;clear ht2;go_upto_region 11 with(go_at_call 127;(with_reducible refine(HIx.out _ HT2.out).mono ?_);rintro e3 w9 ⟨r,rfl,hr,rfl⟩;have HRr:=UX hr;clear hr);have tneg:decide (r≥0)=false:=by have:=HRr.out;rw[HGR.out]at this;simpa using this
  go_wp2_with(first|(go_at_call 171;(with_reducible refine(HSe.out _ HR2.out.1 HT2.out).mono ?_);rintro e3 w3 ⟨rfl,hp3,hk3⟩;have hb3:=(HB0.out.keep HR2.out.2 (by have:=HS.out;omega)).keep hk3 (by have:=HS.out;omega);have HR3:=UX (UZ hp3 hk3);clear hp3 hk3)|(refine sN (.tmp 2) (.tmp 38) (Hv (f:Nat) (wd:Nat) tt) hb3 rX ?_;intro w8 hb8 k8 d8)|fail);refine rO rX hb8 ?_;have hS:=HS.out;exact⟨Hv (f:Nat) (wd:Nat) tt,rfl,AN.mk_ (e:=E5 (f:Nat) (wd:Nat) tt) (BE.nil _ _ _) (BE.nil _ _ _) (Ca.nil _ _),HR3.out.1.keep k8 (fun i hi e=>by omega),Uw (Uw (Uw (V2 HG.out) HR2.out.2 fun i hi e=>e) HR3.out.2 fun i hi e=>e) k8 fun i hi e=>by omega⟩
 rw[Un hk0]at hp;cases hp
theorem Iy (l:Nat) (ts:List Bw):C6 0 l ts=none:=by rw[C6.eq_def]
theorem NR (g:Nat) (n:Int) (hlow:K4 g):∀K,∀k,k≤K→∀ts e us,
  (C6 k 0 ts=some (e,us)→∀w,Cu w g n ts→Ct w→Calls Tryz.prog 78 #[.pointer (some ⟨g,0,none⟩)] w (CY g n us e w))∧
  (C6 k 1 ts=some (e,us)→∀w,Cu w g n ts→Ct w→Calls Tryz.prog 119 #[.pointer (some ⟨g,0,none⟩)] w (CY g n us e w))∧
  (C6 k 2 ts=some (e,us)→∀w,Cu w g n ts→Ct w→Calls Tryz.prog 153 #[.pointer (some ⟨g,0,none⟩)] w (CY g n us e w))
 |K,0,_,ts,e,us=>⟨(fun h=>nomatch(Iy 0 ts).symm.trans h),(fun h=>nomatch(Iy 1 ts).symm.trans h),(fun h=>nomatch(Iy 2 ts).symm.trans h)⟩
 |0,k+1,h,_,_,_=>absurd h (by omega)
 |K+1,k+1,h,ts,e,us=>by
  have ih:=NR g n hlow K;refine⟨fun hp w h1 h2=>Q6 k g n hlow (fun k' hk' ts e us hp w h1 h2=>(ih k' (by omega) ts e us).2.1 hp w h1 h2) ts us e hp w h1 h2,fun hp w h1 h2=>O5 k g n hlow (fun k' hk' ts e us hp w h1 h2=>(ih k' (by omega) ts e us).2.2 hp w h1 h2) ts us e hp w h1 h2,fun hp w h1 h2=>Pr k g n hlow (fun k' hk' ts e us hp w h1 h2=>(ih k' (by omega) ts e us).1 hp w h1 h2) ts us e hp w h1 h2⟩
end Go.Proofs.YtkclnhpofkaclaaGreatDoor
namespace Go.Proofs.YtkclnhpofkaclaaGreatDoor
open Go.RowKit
variable {F:Fence} {n:Nat} {P:Program}
section
variable {F:Fence} {n:Nat} {P:Program} {ops:Array Oper} {rest:List Oper} {o:Oper} {a:Act} {w:World} {Q:Exit→Act→World→Prop}
theorem FP (T:TypeId) (x y:Operand) (_:o.op= .store T x y) (h:wpListIn F n P ops Q (o::rest) a w):wpListIn F n P ops Q (o::rest) a w:=h
theorem KO (T:TypeId) (x y:Operand) (g:Nat) (vs us:List Value) (t:TypeId) (hT:(P.info? T).map (·.size)=some vs.length) (hl:us.length=vs.length) (h1:∀v∈vs,v.oneCell'=true) (hgd:o.guard=none) (ho:o.op= .store T x y)
  (hx:a.eval x= .pointer (some ⟨g,0,none⟩)) (hy:a.eval y= .agg vs.toArray) (hb:AK w g t us.toArray)
  (h:∀w',AK w' g t vs.toArray→A4 (fun i=>i=g) w w'→w'.drawn=w.drawn→wpListIn F n P ops Q rest (a.put o.dst undef) w'):wpListIn F n P ops Q (o::rest) a w:=by
 refine wpListIn_plain hgd fun K hK=>?_
 have ht:w.there g 0 vs.toArray.size:=by simpa using hb.thereN 0 vs.length (by omega)
 have hi:(P.info? T).map (·.size)=some vs.toArray.size:=by simpa using hT
 unfold Oper.wpIn;refine⟨by simp[Oper.about,ho],?_⟩;rw[Oper.semAt_plain F _ _ (by rw[ho];intro c hc';cases hc')];unfold execOp;simp only[ho,hx,hy,Instr.storeAt,Instr.sureAddr,Sem.run_bind,Sem.run_pure,Result.andThen_ok,run_storeVar_mid w g 0 T vs.toArray ht hi (all_oneCell_toArray h1)];obtain⟨k1,k2⟩:=C2 g vs 0 w;have hp:=hb.putN vs 0 (by omega);have e:us.take 0++vs++us.drop (0+vs.length)=vs:=by simp[←hl]
 rw[e]at hp;exact hK _ _ (h _ hp k1 k2)
theorem Lt {t e:TypeId} {sz bytes base:Nat} {z v:Value} {rows:List (List Value)} (T:Kg P t e sz bytes z) (hgd:o.guard=none) (s x:Operand)
  (ho:o.op= .call { callee:= .builtin .append,args:=#[s,x],argTypes:=#[t,t] })
  (hs:a.eval s=v) (hown:AX w base e sz v rows) (g c:Nat) (d:List Value) (t':TypeId) (hx:a.eval x= .slice (some ⟨g,0,none⟩) 1 c) (hc1:1≤c) (hb:AK w g t' d.toArray) (hd:d.length=sz) (h1:∀u∈d,u.oneCell'=true)
  (hn:rows.length<1099511627) (hbase:base≤w.heap.size)
  (h:∀r n' cap w',AX w' base e sz (.slice (some ⟨r,0,none⟩) n' cap) (rows++[d])→A4 (fun i=>v.ownBlock=some i) w w'→wpListIn F n P ops Q rest (a.put o.dst (.slice (some ⟨r,0,none⟩) n' cap)) w'):wpListIn F n P ops Q (o::rest) a w:=by
 have hr:Bs w w.heap.size sz (.slice (some ⟨g,0,none⟩) 1 c) [d]:=by
  refine⟨_,c,rfl,hc1,fun _=>⟨_,_,rfl,hb.lt,fun j cs hj k u hk=>?_⟩⟩;obtain⟨rfl,rfl⟩:j=0∧d=cs:=by
   cases j with
   |zero=>exact⟨rfl,by simpa using hj⟩
   |succ j=>simp at hj
  rw[Nat.zero_mul,Nat.add_zero,Nat.zero_add,hb.cell];simpa using hk
 refine wpListIn_plain hgd fun K hK=>?_
 obtain⟨v',w',hrun,h2,h3,h4⟩:=EK (P:=P) T o.type hown hr (by intro r hr;obtain rfl:=Ug.1 hr;exact hd) (by intro r hr;obtain rfl:=Ug.1 hr;exact h1) (by simp;omega) hbase;unfold Oper.wpIn;refine⟨by simp[Oper.about,ho,resolve,Target.leads,Sem.run_pure],?_⟩;rw[Oper.semAt_plain F _ _ (by rw[ho];intro c hc';cases hc')];simp only[execOp,ho,resolve,invoke,builtin,Sem.run_bind,Sem.run_pure,Result.andThen_ok,List.map_toArray,List.map_cons,List.map_nil,hs,hx,hrun];rcases h2.form with⟨_,hh⟩|⟨g',cap',cur,rfl,hb',hbox,_⟩
 ·simp at hh
 exact hK _ _ (h g' _ cap' w' h2 h3)
end
end Go.Proofs.YtkclnhpofkaclaaGreatDoor
