/- What the card of the law stands on: ParF, RangeW, InN. -/
import Derived.Test.YthpflelgbadkcaaGreatDoorRewriteTypesP18
import Derived.Test.YthpflelgbadkcaaGreatDoorRewriteTypesP01
import Derived.RangeFuncNested
import Derived.RangeFuncBound
import Derived.RangeFuncCalls
import Derived.RangeFuncLeaves
import Derived.Test.YthpflelgbadkcaaGreatDoorRewriteTypesP04
import Derived.OwnWalkIn
set_option maxRecDepth 100000
set_option maxHeartbeats 12800000
set_option linter.unusedVariables false
set_option linter.unusedSimpArgs false
namespace Go.Proofs.YthpflelgbadkcaaGreatDoor
open Go.RowKit Pl
theorem Mm {g:Nat} {n:Int} {us:List C7} {e:Ex} {w w1 w2 w8:World} {cs:List Value} (hs:w1.heap.size=w.heap.size+1) (hg:g<w.heap.size) (hG:A4 w w1) (hr:AZ w2 (DK 0 w1.heap.size w2.heap.size) e cs) (hp:DB w2 g n us) (hk:E7 g w1 w2) (k8:AA (fun i=>i=w.heap.size) w2 w8):AZ w8 (DK 0 w.heap.size w8.heap.size) e cs∧DB w8 g n us∧E7 g w w8:=by
 have hsz:=k8.size;exact⟨AZ.keep (fun b hb=>⟨hb.2,by have:=hb.1;omega,.inr (by have:=hb.1;omega),VA hb.2 hsz⟩) k8 _ _ hr,hp.keep k8 (fun i hi e=>by omega),VV (VV (Vb hG) hk fun i hi e=>e) k8 fun i hi e=>by omega⟩
theorem QJ (K g:Nat) (n:Int) (hlow:L9 g) (HIH:∀k,k≤K→∀ts e us,CE k 1 ts=some (e,us)→∀w,DB w g n ts→Cy w→Calls Tryz.prog 126 #[.pointer (some ⟨g,0,none⟩)] w (Cd g n us e w))
  (ts us:List C7) (e:Ex) (hp:CE (K+1) 0 ts=some (e,us)) (w:World) (h:DB w g n ts) (ht:Cy w):
  Calls Tryz.prog 98 #[.pointer (some ⟨g,0,none⟩)] w (Cd g n us e w):=by
 rw[CE]at hp;cases hpp:CE K 1 ts with
 |none=>rw[hpp]at hp;cases hp
 |some p=>
  obtain⟨e1,us1⟩:=p;rw[hpp]at hp;dsimp only at hp;have hb0:=VW w 29 (AJ 0 0).toArray;have hg0:=(VU w).alloc (.cells (AJ 0 0).toArray 29);have hs0:(w.alloc (.cells (AJ 0 0).toArray 29)).heap.size=w.heap.size+1:=by simp
  have HO:=V3 (QN K g n hlow HIH ts us1 us e1 e hpp hp _ (h.grew hg0) (ht.keep hlow hg0 (fun _ _ h=>h)));have HS:=V3 (V5 hs0 h.lt);clear hs0 h ht hp hpp HIH;go_enter Tryz.func98,Tryz.ntmps98;go_upto_region 1 with fail;change Code.wp _ _ _ _ (w.alloc (.cells (AJ 0 0).toArray 29));generalize w.alloc (.cells (AJ 0 0).toArray 29)=w1 at*;have HG:=V3 hg0;have HB0:=V3 hb0;clear hg0 hb0;go_wp2_with(first|(go_at_call 125;(with_reducible refine HO.out.mono ?_);rintro e3 w2 ⟨cs1,rfl,hr1,hp2,hk2⟩;have h1l:=CN hr1;have h1o:=Ap hr1;have hb2:=HB0.out.keep hk2 (by have:=HS.out;omega);have HR:=V3 (V5 hr1 (V5 hp2 hk2));have HL:=V3 h1l;clear hr1 hp2 hk2)|((with_reducible refine AG 29 (.tmp 2) (.tmp 6) rfl ?_);refine BL 29 (.tmp 2) (.tmp 6) w.heap.size cs1 (AJ 0 0) 29 (by rw[h1l];exact AE) (by rw[h1l];rfl) h1o rfl rfl rfl rfl hb2 ?_;intro w8 hb8 k8 d8));refine bodyPost_ret (AO rfl rfl (by rw[HL.out];exact AE) Tryz.underlying29 rfl hb8) rfl ?_;obtain⟨h1,h2,h3⟩:=Mm HS.out.1 HS.out.2 HG.out HR.out.1 HR.out.2.1 HR.out.2.2 k8;exact⟨cs1,rfl,h1,h2,h3⟩
theorem OS (K g:Nat) (n:Int) (hlow:L9 g) (HIH:∀k,k≤K→∀ts e us,CE k 2 ts=some (e,us)→∀w,DB w g n ts→Cy w→Calls Tryz.prog 145 #[.pointer (some ⟨g,0,none⟩)] w (Cd g n us e w))
  (ts us:List C7) (e:Ex) (hp:CE (K+1) 1 ts=some (e,us)) (w:World) (h:DB w g n ts) (ht:Cy w):
  Calls Tryz.prog 126 #[.pointer (some ⟨g,0,none⟩)] w (Cd g n us e w):=by
 rw[CE]at hp;cases hpp:CE K 2 ts with
 |none=>rw[hpp]at hp;cases hp
 |some p=>
  obtain⟨e1,us1⟩:=p;rw[hpp]at hp;dsimp only at hp;have hb0:=VW w 29 (AJ 0 0).toArray;have hg0:=(VU w).alloc (.cells (AJ 0 0).toArray 29);have hs0:(w.alloc (.cells (AJ 0 0).toArray 29)).heap.size=w.heap.size+1:=by simp
  have HO:=V3 (R4 K g n hlow HIH ts us1 us e1 e hpp hp _ (h.grew hg0) (ht.keep hlow hg0 (fun _ _ h=>h)));have HS:=V3 (V5 hs0 h.lt);clear hs0 h ht hp hpp HIH;go_enter Tryz.func126,Tryz.ntmps126;go_upto_region 1 with fail;change Code.wp _ _ _ _ (w.alloc (.cells (AJ 0 0).toArray 29));generalize w.alloc (.cells (AJ 0 0).toArray 29)=w1 at*;have HG:=V3 hg0;have HB0:=V3 hb0;clear hg0 hb0;go_wp2_with(first|(go_at_call 125;(with_reducible refine HO.out.mono ?_);rintro e3 w2 ⟨cs1,rfl,hr1,hp2,hk2⟩;have h1l:=CN hr1;have h1o:=Ap hr1;have hb2:=HB0.out.keep hk2 (by have:=HS.out;omega);have HR:=V3 (V5 hr1 (V5 hp2 hk2));have HL:=V3 h1l;clear hr1 hp2 hk2)|((with_reducible refine AG 29 (.tmp 2) (.tmp 6) rfl ?_);refine BL 29 (.tmp 2) (.tmp 6) w.heap.size cs1 (AJ 0 0) 29 (by rw[h1l];exact AE) (by rw[h1l];rfl) h1o rfl rfl rfl rfl hb2 ?_;intro w8 hb8 k8 d8));refine bodyPost_ret (AO rfl rfl (by rw[HL.out];exact AE) Tryz.underlying29 rfl hb8) rfl ?_;obtain⟨h1,h2,h3⟩:=Mm HS.out.1 HS.out.2 HG.out HR.out.1 HR.out.2.1 HR.out.2.2 k8;exact⟨cs1,rfl,h1,h2,h3⟩
theorem Qx (K g:Nat) (n:Int) (hlow:L9 g) (HIH:∀k,k≤K→∀ts e us,CE k 0 ts=some (e,us)→∀w,DB w g n ts→Cy w→Calls Tryz.prog 98 #[.pointer (some ⟨g,0,none⟩)] w (Cd g n us e w))
  (ts us:List C7) (e:Ex) (hp:CE (K+1) 2 ts=some (e,us)) (w:World) (h:DB w g n ts) (ht:Cy w):
  Calls Tryz.prog 145 #[.pointer (some ⟨g,0,none⟩)] w (Cd g n us e w):=by
 rw[M6]at hp;rcases ts with _|⟨⟨tk,tt,tn,tf⟩,ts⟩
 ·cases hp
 dsimp only at hp;have hb0:=VW w 29 (AJ 0 0).toArray;have hg0:=(VU w).alloc (.cells (AJ 0 0).toArray 29);have hs0:(w.alloc (.cells (AJ 0 0).toArray 29)).heap.size=w.heap.size+1:=by simp
 have hg:=h.lt;have hp1:=h.grew hg0;have ht1:Cy (w.alloc (.cells (AJ 0 0).toArray 29)):=ht.keep hlow hg0 (fun _ _ h=>h);have HS:=V3 (V5 hs0 hg);have HPP:=V3 hp;have HI:=V3 HIH;have HLow:=V3 hlow;clear hs0 h ht hp HIH hg hlow;go_enter Tryz.func145,Tryz.ntmps145;go_upto_region 1 with fail;change Code.wp _ _ _ _ (w.alloc (.cells (AJ 0 0).toArray 29));generalize w.alloc (.cells (AJ 0 0).toArray 29)=w1 at*;have HG:=V3 hg0;have HB0:=V3 hb0;have HP1:=V3 hp1;have HT1:=V3 ht1;have HKN:=V3 (show Calls Tryz.prog 156 #[.pointer (some ⟨g,0,none⟩),.int .i64 1] w1 (fun e w'=>e= .returned (.bool (decide (tk=1)))∧w1=w')from(G0 w1 g n _ 1 hp1).mono fun _ _ h=>⟨h.1,h.2.symm⟩);have HKW:=V3 (show Calls Tryz.prog 156 #[.pointer (some ⟨g,0,none⟩),.int .i64 0] w1 (fun e w'=>e= .returned (.bool (decide (tk=0)))∧w1=w')from(G0 w1 g n _ 0 hp1).mono fun _ _ h=>⟨h.1,h.2.symm⟩);have HTk:=V3 (show Calls Tryz.prog 155 #[.pointer (some ⟨g,0,none⟩)] w1 (fun e w'=>e= .returned (.agg #[.int .i64 (tk:Nat),.string tt,.int .i64 (tn:Nat),.int .i64 (tf:Nat)])∧DB w' g n ts∧E7 g w1 w')from Ee w1 g n ⟨tk,tt,tn,tf⟩ ts hp1);clear hg0 hb0 hp1 ht1;have hp:=HPP.out;by_cases hk1:tk=1
 ·rw[VN hk1]at hp;rw[show decide (tk=1)=true by simpa using hk1]at HKN;simp only[VQ,VP]at hp;obtain⟨rfl,rfl⟩:=hp;have hfd:=fun w'=>MC w' (tk:Nat) tt (tn:Nat) (tf:Nat)
  clear hk1 HKW HI HPP;go_wp2_with(first|(go_at_call 156;(with_reducible refine HKN.out.mono ?_);rintro e3 w9 ⟨rfl,rfl⟩)|(go_at_call 155;(with_reducible refine HTk.out.mono ?_);rintro e3 w2 ⟨rfl,hp2,hk2⟩;have hb2:=HB0.out.keep hk2 (by have:=HS.out;omega);have HR:=V3 (V5 hp2 hk2);clear hp2 hk2)|((with_reducible refine AG 29 (.tmp 2) (.tmp 12) rfl ?_);refine BL 29 (.tmp 2) (.tmp 12) w.heap.size (AJ (tn:Nat) 1) (AJ 0 0) 29 AE rfl (Bh _ _) rfl rfl rfl rfl hb2 ?_;intro w8 hb8 k8 d8));refine bodyPost_ret (AO rfl rfl AE Tryz.underlying29 rfl hb8) rfl ?_;have hS:=HS.out;exact⟨AJ (tn:Nat) 1,rfl,AZ.mk_ (e:=BB (tn:Nat) 1) (Ba.nil _ _ _) (Ba.nil _ _ _) (EX.nil _ _),HR.out.1.keep k8 (fun i hi e=>by omega),VV (VV (Vb HG.out) HR.out.2 fun i hi e=>e) k8 fun i hi e=>by omega⟩
 rw[VM hk1]at hp;rw[show decide (tk=1)=false by simpa using hk1]at HKN;by_cases hpar:FW (⟨tk,tt,tn,tf⟩::ts) 3 ⟨#[40]⟩=true
 ·rw[VN hpar]at hp;cases hpp:CE K 0 ts with
  |none=>rw[hpp]at hp;cases hp
  |some p=>
   obtain⟨e1,us1⟩:=p;rw[hpp]at hp;dsimp only at hp;by_cases hcl:FW us1 3 ⟨#[41]⟩=true
   ·rw[VN hcl]at hp;obtain⟨t2,us2,rfl⟩:=Dk hcl;simp only[VQ,VP,List.tail_cons]at hp;obtain⟨rfl,rfl⟩:=hp;have HTy:=V3 (Eu w1 g n _ ts ⟨#[40]⟩ HP1.out hpar);have HC:=V3 (fun w' (h:DB w' g n ts) ht=>HI.out K (V6 _) ts e1 (t2::us2) hpp w' h ht);have HSy:=V3 (fun w' (h:DB w' g n (t2::us2))=>J8 w' g n t2 us2 ⟨#[41]⟩ h hcl);clear hk1 hpar hpp hcl HKW HTk HI HPP;go_upto_region 4 with(first|(go_at_call 156;(with_reducible refine HKN.out.mono ?_);rintro e3 w9 ⟨rfl,rfl⟩)|(go_at_call 144;(with_reducible refine HTy.out.mono ?_);rintro e3 w2 ⟨rfl,hp2,hk2⟩;have HR2:=V3 (V5 hp2 hk2);clear hp2 hk2));go_upto_region 5 with(first|(go_at_call 98;(with_reducible refine(HC.out _ HR2.out.1 (HT1.out.keep HLow.out HR2.out.2 (fun i hi e=>by omega))).mono ?_);rintro e3 w3 ⟨cs1,rfl,hr3,hp3,hk3⟩;have h1l:=CN hr3;have h1o:=Ap hr3;have HR3:=V3 (V5 hr3 (V5 hp3 (V5 hk3 (V5 h1l h1o))));clear hr3 hp3 hk3)|((with_reducible refine AG 29 (.tmp 3) (.tmp 16) rfl ?_);refine BL 29 (.tmp 3) (.tmp 16) w3.heap.size cs1 (AJ 0 0) 29 (by rw[h1l];exact AE) (by rw[h1l];rfl) h1o rfl rfl rfl rfl (VW w3 29 _) ?_;intro w4 hb4 k4 d4;have HG4:=V3 (show A4 w3 w4 from VV ((VU w3).alloc _) k4 (fun i hi e=>by omega));have HB4:=V3 hb4;clear k4 d4 hb4 h1o h1l));have hs3:=HR3.out.2.2.1.size;have hs2:=HR2.out.2.size;go_upto_region 6 with(go_at_call 157;(with_reducible refine(HSy.out _ (HR3.out.2.1.grew HG4.out)).mono ?_);rintro e3 w5 ⟨rfl,hp5,hk5⟩;have hb5:=HB4.out.keep hk5 (by have:=HS.out;omega);have HR5:=V3 (V5 hp5 hk5);clear hp5 hk5);have k15:AA (fun i=>i=g) w1 w5:=VV (AA.grew (VV HR2.out.2 HR3.out.2.2.1 fun i _ h=>h) HG4.out) HR5.out.2 fun i _ h=>h
    have hb05:=HB0.out.keep k15 (by have:=HS.out;omega);have hl:=HR3.out.2.2.2.1;have ho:=HR3.out.2.2.2.2;have HK15:=V3 k15;clear k15;go_wp2_with(first|((with_reducible refine AF 29 (.tmp 3) rfl ?_);refine BZ 29 Tryz.underlying29 rfl (.tmp 3) w3.heap.size cs1 29 (by rw[hl];exact AE) rfl rfl rfl hb5 ?_)|((with_reducible refine AG 29 (.tmp 2) (.tmp 19) rfl ?_);refine BL 29 (.tmp 2) (.tmp 19) w.heap.size cs1 (AJ 0 0) 29 (by rw[hl];exact AE) (by rw[hl];rfl) ho rfl rfl rfl rfl hb05 ?_;intro w8 hb8 k8 d8));refine bodyPost_ret (AO rfl rfl (by rw[HR3.out.2.2.2.1];exact AE) Tryz.underlying29 rfl hb8) rfl ?_;have hs4:=HG4.out.size;have hs5:=HR5.out.2.size;have hs:=HS.out;have hr5:AZ w5 (DK 0 w1.heap.size w5.heap.size) e1 cs1:=AZ.keep (S:=fun i=>i=g) (fun b hb=>⟨hb.2,by have:=hb.1;omega,.inr (by have:=hb.1;omega),by have:=hb.2;omega⟩) (VV (Vb HG4.out) HR5.out.2 fun i _ h=>h) _ _ HR3.out.1;obtain⟨h1,h2,h3⟩:=Mm HS.out.1 HS.out.2 HG.out hr5 HR5.out.1 HK15.out k8;exact⟨cs1,rfl,h1,h2,h3⟩
   rw[VM hcl]at hp;cases hp
 rw[VM hpar]at hp;by_cases hk0:tk=0
 ·rw[VN hk0]at hp;rw[show decide (tk=0)=true by simpa using hk0]at HKW;by_cases hgrp:Ih DL tt=true
  ·rw[VN hgrp]at hp;cases hp
  rw[VM hgrp]at hp;have hsel:∃(f wd:Nat),e=IK (f:Nat) (wd:Nat) tt:=by
   unfold N0 at hp;split at hp
   ·cases hp
   split at hp
   ·split at hp
    ·cases hp
    split at hp
    ·cases hp
    simp only[VQ,VP]at hp;exact⟨_,_,hp.1.symm⟩
   split at hp
   ·cases hp
   simp only[VQ,VP]at hp;exact⟨0,0,hp.1.symm⟩
  obtain⟨f,wd,rfl⟩:=hsel;have HTn:=V3 ((F3 w1 g n _ ⟨#[40]⟩ HP1.out (by simpa using hpar)).mono (fun _ w' h=>show _∧w1=w' from⟨h.1,h.2.symm⟩));have HIx:=V3 (show ∀w',Cy w'→Calls Tryz.prog 122 #[.slice (some ⟨0,0,none⟩) 5 5,.string tt] w' (MJ DL tt w')from fun w' h=>KJ _ DL tt w' h.1.rd (by decide));have HSe:=V3 (fun w' (h:DB w' g n ts) (ht:Cy w')=>RS w' g n tt ts us f wd h ht.2.1 HLow.out.2.2.1 hp);have hfd:=fun w'=>QU w' (tk:Nat) tt (tn:Nat) (tf:Nat)
  have HGR:=V3 (show Ih DL tt=false by simpa using hgrp);clear hk1 hpar hk0 hgrp hp HI HPP;go_upto_region 10 with(first|(go_at_call 156;(first|(with_reducible refine HKN.out.mono ?_)|(with_reducible refine HKW.out.mono ?_));rintro e3 w9 ⟨rfl,rfl⟩)|(go_at_call 144;(with_reducible refine HTn.out.mono ?_);rintro e3 w9 ⟨rfl,rfl⟩)|(go_at_call 155;(with_reducible refine HTk.out.mono ?_);rintro e3 w2 ⟨rfl,hp2,hk2⟩;have HR2:=V3 (V5 hp2 hk2);clear hp2 hk2));have ht2:Cy w2:=HT1.out.keep HLow.out HR2.out.2 (fun i hi e=>by omega);have HT2:=V3 ht2;clear ht2;go_upto_region 11 with(go_at_call 122;(with_reducible refine(HIx.out _ HT2.out).mono ?_);rintro e3 w9 ⟨r,rfl,hr,rfl⟩;have HRr:=V3 hr;clear hr);have tneg:decide (r≥0)=false:=by have:=HRr.out;rw[HGR.out]at this;simpa using this
  go_wp2_with(first|(go_at_call 159;(with_reducible refine(HSe.out _ HR2.out.1 HT2.out).mono ?_);rintro e3 w3 ⟨rfl,hp3,hk3⟩;have hb3:=(HB0.out.keep HR2.out.2 (by have:=HS.out;omega)).keep hk3 (by have:=HS.out;omega);have HR3:=V3 (V5 hp3 hk3);clear hp3 hk3)|((with_reducible refine AG 29 (.tmp 2) (.tmp 38) rfl ?_);refine BL 29 (.tmp 2) (.tmp 38) w.heap.size (Gv (f:Nat) (wd:Nat) tt) (AJ 0 0) 29 AE rfl (Fz _ _ _) rfl rfl rfl rfl hb3 ?_;intro w8 hb8 k8 d8));refine bodyPost_ret (AO rfl rfl AE Tryz.underlying29 rfl hb8) rfl ?_;have hS:=HS.out;exact⟨Gv (f:Nat) (wd:Nat) tt,rfl,AZ.mk_ (e:=IK (f:Nat) (wd:Nat) tt) (Ba.nil _ _ _) (Ba.nil _ _ _) (EX.nil _ _),HR3.out.1.keep k8 (fun i hi e=>by omega),VV (VV (VV (Vb HG.out) HR2.out.2 fun i hi e=>e) HR3.out.2 fun i hi e=>e) k8 fun i hi e=>by omega⟩
 rw[VM hk0]at hp;cases hp
theorem JK (l:Nat) (ts:List C7):CE 0 l ts=none:=by rw[CE.eq_def]
theorem Nj (g:Nat) (n:Int) (hlow:L9 g):∀K,∀k,k≤K→∀ts e us,
  (CE k 0 ts=some (e,us)→∀w,DB w g n ts→Cy w→Calls Tryz.prog 98 #[.pointer (some ⟨g,0,none⟩)] w (Cd g n us e w))∧
  (CE k 1 ts=some (e,us)→∀w,DB w g n ts→Cy w→Calls Tryz.prog 126 #[.pointer (some ⟨g,0,none⟩)] w (Cd g n us e w))∧
  (CE k 2 ts=some (e,us)→∀w,DB w g n ts→Cy w→Calls Tryz.prog 145 #[.pointer (some ⟨g,0,none⟩)] w (Cd g n us e w))
 |K,0,_,ts,e,us=>⟨(fun h=>nomatch(JK 0 ts).symm.trans h),(fun h=>nomatch(JK 1 ts).symm.trans h),(fun h=>nomatch(JK 2 ts).symm.trans h)⟩
 |0,k+1,h,_,_,_=>absurd h (by omega)
 |K+1,k+1,h,ts,e,us=>by
  have ih:=Nj g n hlow K;refine⟨fun hp w h1 h2=>QJ k g n hlow (fun k' hk' ts e us hp w h1 h2=>(ih k' (by omega) ts e us).2.1 hp w h1 h2) ts us e hp w h1 h2,fun hp w h1 h2=>OS k g n hlow (fun k' hk' ts e us hp w h1 h2=>(ih k' (by omega) ts e us).2.2 hp w h1 h2) ts us e hp w h1 h2,fun hp w h1 h2=>Qx k g n hlow (fun k' hk' ts e us hp w h1 h2=>(ih k' (by omega) ts e us).1 hp w h1 h2) ts us e hp w h1 h2⟩
end Go.Proofs.YthpflelgbadkcaaGreatDoor
namespace Go.Proofs.YthpflelgbadkcaaGreatDoor
open Go.RowKit
variable {F:Fence} {n:Nat} {P:Program}
section
variable {F:Fence} {n:Nat} {P:Program} {ops:Array Oper} {rest:List Oper} {o:Oper} {a:Act} {w:World} {Q:Exit→Act→World→Prop}
theorem Fx (T:TypeId) (x y:Operand) (_:o.op= .store T x y) (h:wpListIn F n P ops Q (o::rest) a w):wpListIn F n P ops Q (o::rest) a w:=h
theorem Kq (T:TypeId) (x y:Operand) (g:Nat) (vs us:List Value) (t:TypeId) (hT:(P.info? T).map (·.size)=some vs.length) (hl:us.length=vs.length) (h1:∀v∈vs,v.oneCell'=true) (hgd:o.guard=none) (ho:o.op= .store T x y)
  (hx:a.eval x= .pointer (some ⟨g,0,none⟩)) (hy:a.eval y= .agg vs.toArray) (hb:AR w g t us.toArray)
  (h:∀w',AR w' g t vs.toArray→AA (fun i=>i=g) w w'→w'.drawn=w.drawn→wpListIn F n P ops Q rest (a.put o.dst undef) w'):wpListIn F n P ops Q (o::rest) a w:=by
 refine wpListIn_plain hgd fun K hK=>?_
 have ht:w.there g 0 vs.toArray.size:=by simpa using hb.thereN 0 vs.length (by omega)
 have hi:(P.info? T).map (·.size)=some vs.toArray.size:=by simpa using hT
 unfold Oper.wpIn;refine⟨by simp[Oper.about,ho],?_⟩;rw[Oper.semAt_plain F _ _ (by rw[ho];intro c hc';cases hc')];unfold execOp;simp only[ho,hx,hy,Instr.storeAt,Instr.sureAddr,Sem.run_bind,Sem.run_pure,Result.andThen_ok,run_storeVar_mid w g 0 T vs.toArray ht hi (all_oneCell_toArray h1)];obtain⟨k1,k2⟩:=C3 g vs 0 w;have hp:=hb.putN vs 0 (by omega);have e:us.take 0++vs++us.drop (0+vs.length)=vs:=by simp[←hl]
 rw[e]at hp;exact hK _ _ (h _ hp k1 k2)
theorem LR {t e:TypeId} {sz bytes base:Nat} {z v:Value} {rows:List (List Value)} (T:My P t e sz bytes z) (hgd:o.guard=none) (s x:Operand)
  (ho:o.op= .call { callee:= .builtin .append,args:=#[s,x],argTypes:=#[t,t] })
  (hs:a.eval s=v) (hown:B8 w base e sz v rows) (g c:Nat) (d:List Value) (t':TypeId) (hx:a.eval x= .slice (some ⟨g,0,none⟩) 1 c) (hc1:1≤c) (hb:AR w g t' d.toArray) (hd:d.length=sz) (h1:∀u∈d,u.oneCell'=true)
  (hn:rows.length<1099511627) (hbase:base≤w.heap.size)
  (h:∀r n' cap w',B8 w' base e sz (.slice (some ⟨r,0,none⟩) n' cap) (rows++[d])→AA (fun i=>v.ownBlock=some i) w w'→wpListIn F n P ops Q rest (a.put o.dst (.slice (some ⟨r,0,none⟩) n' cap)) w'):wpListIn F n P ops Q (o::rest) a w:=by
 have hr:Cg w w.heap.size sz (.slice (some ⟨g,0,none⟩) 1 c) [d]:=by
  refine⟨_,c,rfl,hc1,fun _=>⟨_,_,rfl,hb.lt,fun j cs hj k u hk=>?_⟩⟩;obtain⟨rfl,rfl⟩:j=0∧d=cs:=by
   cases j with
   |zero=>exact⟨rfl,by simpa using hj⟩
   |succ j=>simp at hj
  rw[Nat.zero_mul,Nat.add_zero,Nat.zero_add,hb.cell];simpa using hk
 refine wpListIn_plain hgd fun K hK=>?_
 obtain⟨v',w',hrun,h2,h3,h4⟩:=Hq (P:=P) T o.type hown hr (by intro r hr;obtain rfl:=VF.1 hr;exact hd) (by intro r hr;obtain rfl:=VF.1 hr;exact h1) (by simp;omega) hbase;unfold Oper.wpIn;refine⟨by simp[Oper.about,ho,resolve,Target.leads,Sem.run_pure],?_⟩;rw[Oper.semAt_plain F _ _ (by rw[ho];intro c hc';cases hc')];simp only[execOp,ho,resolve,invoke,builtin,Sem.run_bind,Sem.run_pure,Result.andThen_ok,List.map_toArray,List.map_cons,List.map_nil,hs,hx,hrun];rcases h2.form with⟨_,hh⟩|⟨g',cap',cur,rfl,hb',hbox,_⟩
 ·simp at hh
 exact hK _ _ (h g' _ cap' w' h2 h3)
end
end Go.Proofs.YthpflelgbadkcaaGreatDoor
