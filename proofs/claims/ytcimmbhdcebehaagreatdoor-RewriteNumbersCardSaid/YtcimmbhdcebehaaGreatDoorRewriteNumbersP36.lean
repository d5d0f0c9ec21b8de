/- What the card of the law stands on: Rwr, ParF, RangeW, InN. -/
import Derived.Test.YtcimmbhdcebehaaGreatDoorRewriteNumbersP35
import Derived.Test.YtcimmbhdcebehaaGreatDoorRewriteNumbersP20
import Derived.Test.YtcimmbhdcebehaaGreatDoorRewriteNumbersP01
import Derived.RangeFuncNested
import Derived.RangeFuncBound
import Derived.RangeFuncCalls
import Derived.RangeFuncLeaves
import Derived.Test.YtcimmbhdcebehaaGreatDoorRewriteNumbersP04
import Derived.OwnWalkIn
set_option maxRecDepth 100000
set_option maxHeartbeats 12800000
set_option linter.unusedVariables false
set_option linter.unusedSimpArgs false
namespace Go.Proofs.YtcimmbhdcebehaaGreatDoor
open Go.RowKit Pl
theorem rew_any (e:Ex) (hn:nodesE e≤1000000) (hok:AllE NodeOk e) (hs:SOk e) (hv:validE e=0) (hN:AllE NodeOk (simpE e)) (w:World) (cs:List Value) (hwt:WTab w) (hot:OTab w) (hr:RdE w w.heap.size e cs):
  Calls Tryz.prog 15 #[.agg cs.toArray] w (TreePost w 0 (simpE e)):=by
 have hone:∀v∈cs,v.oneCell'=true:=cells11_one (RdE.toQ (Q:=fun _=>True) (fun _ _=>trivial) e cs hr);obtain⟨vm,vb,vk,rfl, -⟩:=hr.open_;obtain⟨hb1,hb2,hG⟩:=boxes2 w 34 34 (cells11 e vm vb vk).toArray (numL 0 0).toArray;have hs2:((w.alloc (.cells (cells11 e vm vb vk).toArray 34)).alloc (.cells (numL 0 0).toArray 34)).heap.size=w.heap.size+2:=by simp
 have HR:=Lib.hid (fun w' (g:Grew w w')=>hr.grew g);have HVd:=Lib.hid (fun w' (g:Grew w w')=>pvalid_any e hn hok w' (cells11 e vm vb vk) (hwt.grew g) (hr.grew g));rw[hv]at HVd;have HT:=Lib.hid (fun w' (g:Grew w w')=>And.intro (hwt.grew g) (hot.keep g (fun h=>h)));have HSO:=Lib.hid hs;have HNN:=Lib.hid hN;have HOK:=Lib.hid hok;have HN:=Lib.hid hn;clear hr hok hn hwt hot hs hN hv;go_enter Tryz.func15,Tryz.ntmps15;go_upto_region 1 with fail;change Code.wp _ _ _ _ ((w.alloc (.cells (cells11 e vm vb vk).toArray 34)).alloc (.cells (numL 0 0).toArray 34));generalize (w.alloc (.cells (cells11 e vm vb vk).toArray 34)).alloc (.cells (numL 0 0).toArray 34)=w1 at*;have HS:=Lib.hid hs2;have HG:=Lib.hid hG;clear hs2 hG;go_upto_region 3 with(first|((with_reducible refine at_load 34 (.tmp 1) rfl ?_);refine ldN 34 Tryz.underlying34 rfl (.tmp 1) (w.heap.size) (cells11 e vm vb vk) 34 infoX rfl rfl rfl hb1 ?_)|(go_at_call 19;(with_reducible refine(HVd.out _ HG.out).mono ?_);rintro e3 w3 ⟨rfl,k3⟩));have hb3:=hb1.grew k3;have hb4:=hb2.grew k3;have HG3:=Lib.hid (HG.out.trans k3);have hs3:=k3.size;have HS3:=Lib.hid (show w.heap.size+2≤w3.heap.size by have:=HS.out;omega);have HSi:=Lib.hid (psimp6_any (nodesE e) e (Nat.le_refl _) HN.out HSO.out w3 w3.heap.size (cells11 e vm vb vk) (HT.out _ HG3.out).1 (HT.out _ HG3.out).2 (Nat.le_refl _) (HR.out w3 HG3.out));have HSe:=Lib.hid (fun w' cs' (h:RdE w' w'.heap.size (simpE e) cs')=>sep_any (nodesE (simpE e)) (simpE e) (Nat.le_refl _) (Nat.le_trans (sok_simp (nodesE e) e (Nat.le_refl _) HSO.out).2 HN.out) HNN.out w' cs' h);clear hb1 hb2 k3 hs3 HVd;go_wp2_with(first|((with_reducible refine at_load 34 (.tmp 1) rfl ?_);refine ldN 34 Tryz.underlying34 rfl (.tmp 1) (w.heap.size) (cells11 e vm vb vk) 34 infoX rfl rfl rfl hb3 ?_)|(go_at_call 33;(with_reducible refine HSi.out.mono ?_);rintro e4 w4 ⟨Y,rfl,hrY,k4⟩;have HY:=Lib.hid (RdEQ.toB (B:=w4.heap.size) (fun b hb=>hb.2) _ _ hrY);clear hrY;have hs4:=k4.size;have HS4:=Lib.hid (Nat.le_trans HS3.out hs4);clear hs4)|(go_at_call 32;(with_reducible refine(HSe.out _ _ HY.out).mono ?_);rintro e5 w5 ⟨X,rfl,hrX,k5⟩;have hX1:=cells11_one hrX;have hXl:X.length=11:=(by obtain⟨a,b,c,h, -⟩:=hrX.open_;rw[h];rfl);have HX:=Lib.hid hrX;have HXl:=Lib.hid hXl;clear hrX hXl;have hb5:=hb4.grew (k4.trans k5))|((with_reducible refine at_store 34 (.tmp 2) (.tmp 10) rfl ?_);refine stN 34 (.tmp 2) (.tmp 10) (w.heap.size+1) X (numL 0 0) 34 (by rw[HXl.out];exact infoX) HXl.out.symm hX1 rfl rfl rfl rfl hb5 ?_;intro w8 hb8 k8 d8));refine bodyPost_ret (results_one rfl rfl (by rw[HXl.out];exact infoX) Tryz.underlying34 rfl hb8) rfl ?_;refine⟨X,rfl,?_,Keeps.then_ (HG3.out.trans (k4.trans k5)) k8 (fun i hi e=>by omega)⟩;exact two_final k8 (Nat.zero_le _) HS4.out HX.out
theorem par_up {g:Nat} {n:Int} {us:List Tok} {e:Ex} {w w1 w2 w8:World} {cs:List Value} (hs:w1.heap.size=w.heap.size+1) (hg:g<w.heap.size) (hG:Grew w w1) (hr:RdEQ w2 (Two 0 w1.heap.size w2.heap.size) e cs) (hp:PSt w2 g n us) (hk:PKeeps g w1 w2) (k8:Keeps (fun i=>i=w.heap.size) w2 w8):RdEQ w8 (Two 0 w.heap.size w8.heap.size) e cs∧PSt w8 g n us∧PKeeps g w w8:=by
 have hsz:=k8.size;exact⟨RdEQ.keep (fun b hb=>⟨hb.2,by have:=hb.1;omega,.inr (by have:=hb.1;omega),Nat.lt_of_lt_of_le hb.2 hsz⟩) k8 _ _ hr,hp.keep k8 (fun i hi e=>by omega),Keeps.then_ (Keeps.then_ (Grew.keeps hG) hk fun i hi e=>e) k8 fun i hi e=>by omega⟩
theorem pexp_any (K g:Nat) (n:Int) (hlow:PLow g) (HIH:∀k,k≤K→∀ts e us,parP k 1 ts=some (e,us)→∀w,PSt w g n ts→PTab w→Calls Tryz.prog 51 #[.pointer (some ⟨g,0,none⟩)] w (ParPost g n us e w))
  (ts us:List Tok) (e:Ex) (hp:parP (K+1) 0 ts=some (e,us)) (w:World) (h:PSt w g n ts) (ht:PTab w):
  Calls Tryz.prog 26 #[.pointer (some ⟨g,0,none⟩)] w (ParPost g n us e w):=by
 rw[parP]at hp;cases hpp:parP K 1 ts with
 |none=>rw[hpp]at hp;cases hp
 |some p=>
  obtain⟨e1,us1⟩:=p;rw[hpp]at hp;dsimp only at hp;have hb0:=Box.new w 34 (numL 0 0).toArray;have hg0:=(Grew.refl w).alloc (.cells (numL 0 0).toArray 34);have hs0:(w.alloc (.cells (numL 0 0).toArray 34)).heap.size=w.heap.size+1:=by simp
  have HO:=Lib.hid (pop0_any K g n hlow HIH ts us1 us e1 e hpp hp _ (h.grew hg0) (ht.keep hlow hg0 (fun _ _ h=>h)));have HS:=Lib.hid (And.intro hs0 h.lt);clear hs0 h ht hp hpp HIH;go_enter Tryz.func26,Tryz.ntmps26;go_upto_region 1 with fail;change Code.wp _ _ _ _ (w.alloc (.cells (numL 0 0).toArray 34));generalize w.alloc (.cells (numL 0 0).toArray 34)=w1 at*;have HG:=Lib.hid hg0;have HB0:=Lib.hid hb0;clear hg0 hb0;go_wp2_with(first|(go_at_call 50;(with_reducible refine HO.out.mono ?_);rintro e3 w2 ⟨cs1,rfl,hr1,hp2,hk2⟩;have h1l:=rdEQ_len hr1;have h1o:=cells11_one hr1;have hb2:=HB0.out.keep hk2 (by have:=HS.out;omega);have HR:=Lib.hid (And.intro hr1 (And.intro hp2 hk2));have HL:=Lib.hid h1l;clear hr1 hp2 hk2)|((with_reducible refine at_store 34 (.tmp 2) (.tmp 6) rfl ?_);refine stN 34 (.tmp 2) (.tmp 6) w.heap.size cs1 (numL 0 0) 34 (by rw[h1l];exact infoX) (by rw[h1l];rfl) h1o rfl rfl rfl rfl hb2 ?_;intro w8 hb8 k8 d8));refine bodyPost_ret (results_one rfl rfl (by rw[HL.out];exact infoX) Tryz.underlying34 rfl hb8) rfl ?_;obtain⟨h1,h2,h3⟩:=par_up HS.out.1 HS.out.2 HG.out HR.out.1 HR.out.2.1 HR.out.2.2 k8;exact⟨cs1,rfl,h1,h2,h3⟩
theorem pterm_any (K g:Nat) (n:Int) (hlow:PLow g) (HIH:∀k,k≤K→∀ts e us,parP k 2 ts=some (e,us)→∀w,PSt w g n ts→PTab w→Calls Tryz.prog 80 #[.pointer (some ⟨g,0,none⟩)] w (ParPost g n us e w))
  (ts us:List Tok) (e:Ex) (hp:parP (K+1) 1 ts=some (e,us)) (w:World) (h:PSt w g n ts) (ht:PTab w):
  Calls Tryz.prog 51 #[.pointer (some ⟨g,0,none⟩)] w (ParPost g n us e w):=by
 rw[parP]at hp;cases hpp:parP K 2 ts with
 |none=>rw[hpp]at hp;cases hp
 |some p=>
  obtain⟨e1,us1⟩:=p;rw[hpp]at hp;dsimp only at hp;have hb0:=Box.new w 34 (numL 0 0).toArray;have hg0:=(Grew.refl w).alloc (.cells (numL 0 0).toArray 34);have hs0:(w.alloc (.cells (numL 0 0).toArray 34)).heap.size=w.heap.size+1:=by simp
  have HO:=Lib.hid (pop1_any K g n hlow HIH ts us1 us e1 e hpp hp _ (h.grew hg0) (ht.keep hlow hg0 (fun _ _ h=>h)));have HS:=Lib.hid (And.intro hs0 h.lt);clear hs0 h ht hp hpp HIH;go_enter Tryz.func51,Tryz.ntmps51;go_upto_region 1 with fail;change Code.wp _ _ _ _ (w.alloc (.cells (numL 0 0).toArray 34));generalize w.alloc (.cells (numL 0 0).toArray 34)=w1 at*;have HG:=Lib.hid hg0;have HB0:=Lib.hid hb0;clear hg0 hb0;go_wp2_with(first|(go_at_call 50;(with_reducible refine HO.out.mono ?_);rintro e3 w2 ⟨cs1,rfl,hr1,hp2,hk2⟩;have h1l:=rdEQ_len hr1;have h1o:=cells11_one hr1;have hb2:=HB0.out.keep hk2 (by have:=HS.out;omega);have HR:=Lib.hid (And.intro hr1 (And.intro hp2 hk2));have HL:=Lib.hid h1l;clear hr1 hp2 hk2)|((with_reducible refine at_store 34 (.tmp 2) (.tmp 6) rfl ?_);refine stN 34 (.tmp 2) (.tmp 6) w.heap.size cs1 (numL 0 0) 34 (by rw[h1l];exact infoX) (by rw[h1l];rfl) h1o rfl rfl rfl rfl hb2 ?_;intro w8 hb8 k8 d8));refine bodyPost_ret (results_one rfl rfl (by rw[HL.out];exact infoX) Tryz.underlying34 rfl hb8) rfl ?_;obtain⟨h1,h2,h3⟩:=par_up HS.out.1 HS.out.2 HG.out HR.out.1 HR.out.2.1 HR.out.2.2 k8;exact⟨cs1,rfl,h1,h2,h3⟩
theorem pfac_any (K g:Nat) (n:Int) (hlow:PLow g) (HIH:∀k,k≤K→∀ts e us,parP k 0 ts=some (e,us)→∀w,PSt w g n ts→PTab w→Calls Tryz.prog 26 #[.pointer (some ⟨g,0,none⟩)] w (ParPost g n us e w))
  (ts us:List Tok) (e:Ex) (hp:parP (K+1) 2 ts=some (e,us)) (w:World) (h:PSt w g n ts) (ht:PTab w):
  Calls Tryz.prog 80 #[.pointer (some ⟨g,0,none⟩)] w (ParPost g n us e w):=by
 rw[parP_fac]at hp;rcases ts with _|⟨⟨tk,tt,tn,tf⟩,ts⟩
 ·cases hp
 dsimp only at hp;have hb0:=Box.new w 34 (numL 0 0).toArray;have hg0:=(Grew.refl w).alloc (.cells (numL 0 0).toArray 34);have hs0:(w.alloc (.cells (numL 0 0).toArray 34)).heap.size=w.heap.size+1:=by simp
 have hg:=h.lt;have hp1:=h.grew hg0;have ht1:PTab (w.alloc (.cells (numL 0 0).toArray 34)):=ht.keep hlow hg0 (fun _ _ h=>h);have HS:=Lib.hid (And.intro hs0 hg);have HPP:=Lib.hid hp;have HI:=Lib.hid HIH;have HLow:=Lib.hid hlow;clear hs0 h ht hp HIH hg hlow;go_enter Tryz.func80,Tryz.ntmps80;go_upto_region 1 with fail;change Code.wp _ _ _ _ (w.alloc (.cells (numL 0 0).toArray 34));generalize w.alloc (.cells (numL 0 0).toArray 34)=w1 at*;have HG:=Lib.hid hg0;have HB0:=Lib.hid hb0;have HP1:=Lib.hid hp1;have HT1:=Lib.hid ht1;have HKN:=Lib.hid (show Calls Tryz.prog 99 #[.pointer (some ⟨g,0,none⟩),.int .i64 1] w1 (fun e w'=>e= .returned (.bool (decide (tk=1)))∧w1=w')from(pkind_any w1 g n _ 1 hp1).mono fun _ _ h=>⟨h.1,h.2.symm⟩);have HKW:=Lib.hid (show Calls Tryz.prog 99 #[.pointer (some ⟨g,0,none⟩),.int .i64 0] w1 (fun e w'=>e= .returned (.bool (decide (tk=0)))∧w1=w')from(pkind_any w1 g n _ 0 hp1).mono fun _ _ h=>⟨h.1,h.2.symm⟩);have HTk:=Lib.hid (show Calls Tryz.prog 98 #[.pointer (some ⟨g,0,none⟩)] w1 (fun e w'=>e= .returned (.agg #[.int .i64 (tk:Nat),.string tt,.int .i64 (tn:Nat),.int .i64 (tf:Nat)])∧PSt w' g n ts∧PKeeps g w1 w')from ptake_any w1 g n ⟨tk,tt,tn,tf⟩ ts hp1);clear hg0 hb0 hp1 ht1;have hp:=HPP.out;by_cases hk1:tk=1
 ·rw[if_pos hk1]at hp;rw[show decide (tk=1)=true by simpa using hk1]at HKN;simp only[Option.some.injEq,Prod.mk.injEq]at hp;obtain⟨rfl,rfl⟩:=hp;have hfd:=fun w'=>run_tokN w' (tk:Nat) tt (tn:Nat) (tf:Nat)
  clear hk1 HKW HI HPP;go_wp2_with(first|(go_at_call 99;(with_reducible refine HKN.out.mono ?_);rintro e3 w9 ⟨rfl,rfl⟩)|(go_at_call 98;(with_reducible refine HTk.out.mono ?_);rintro e3 w2 ⟨rfl,hp2,hk2⟩;have hb2:=HB0.out.keep hk2 (by have:=HS.out;omega);have HR:=Lib.hid (And.intro hp2 hk2);clear hp2 hk2)|((with_reducible refine at_store 34 (.tmp 2) (.tmp 12) rfl ?_);refine stN 34 (.tmp 2) (.tmp 12) w.heap.size (numL (tn:Nat) 1) (numL 0 0) 34 infoX rfl (numL_ones _ _) rfl rfl rfl rfl hb2 ?_;intro w8 hb8 k8 d8));refine bodyPost_ret (results_one rfl rfl infoX Tryz.underlying34 rfl hb8) rfl ?_;have hS:=HS.out;exact⟨numL (tn:Nat) 1,rfl,RdEQ.mk_ (e:=numE (tn:Nat) 1) (RdRQ.nil _ _ _) (RdRQ.nil _ _ _) (RdTQ.nil _ _),HR.out.1.keep k8 (fun i hi e=>by omega),Keeps.then_ (Keeps.then_ (Grew.keeps HG.out) HR.out.2 fun i hi e=>e) k8 fun i hi e=>by omega⟩
 rw[if_neg hk1]at hp;rw[show decide (tk=1)=false by simpa using hk1]at HKN;by_cases hpar:isT (⟨tk,tt,tn,tf⟩::ts) 3 ⟨#[40]⟩=true
 ·rw[if_pos hpar]at hp;cases hpp:parP K 0 ts with
  |none=>rw[hpp]at hp;cases hp
  |some p=>
   obtain⟨e1,us1⟩:=p;rw[hpp]at hp;dsimp only at hp;by_cases hcl:isT us1 3 ⟨#[41]⟩=true
   ·rw[if_pos hcl]at hp;obtain⟨t2,us2,rfl⟩:=isT_cons hcl;simp only[Option.some.injEq,Prod.mk.injEq,List.tail_cons]at hp;obtain⟨rfl,rfl⟩:=hp;have HTy:=Lib.hid (ptry_yes w1 g n _ ts ⟨#[40]⟩ HP1.out hpar);have HC:=Lib.hid (fun w' (h:PSt w' g n ts) ht=>HI.out K (Nat.le_refl _) ts e1 (t2::us2) hpp w' h ht);have HSy:=Lib.hid (fun w' (h:PSt w' g n (t2::us2))=>psym_any w' g n t2 us2 ⟨#[41]⟩ h hcl);clear hk1 hpar hpp hcl HKW HTk HI HPP;go_upto_region 4 with(first|(go_at_call 99;(with_reducible refine HKN.out.mono ?_);rintro e3 w9 ⟨rfl,rfl⟩)|(go_at_call 79;(with_reducible refine HTy.out.mono ?_);rintro e3 w2 ⟨rfl,hp2,hk2⟩;have HR2:=Lib.hid (And.intro hp2 hk2);clear hp2 hk2));go_upto_region 5 with(first|(go_at_call 26;(with_reducible refine(HC.out _ HR2.out.1 (HT1.out.keep HLow.out HR2.out.2 (fun i hi e=>by omega))).mono ?_);rintro e3 w3 ⟨cs1,rfl,hr3,hp3,hk3⟩;have h1l:=rdEQ_len hr3;have h1o:=cells11_one hr3;have HR3:=Lib.hid (And.intro hr3 (And.intro hp3 (And.intro hk3 (And.intro h1l h1o))));clear hr3 hp3 hk3)|((with_reducible refine at_store 34 (.tmp 3) (.tmp 16) rfl ?_);refine stN 34 (.tmp 3) (.tmp 16) w3.heap.size cs1 (numL 0 0) 34 (by rw[h1l];exact infoX) (by rw[h1l];rfl) h1o rfl rfl rfl rfl (Box.new w3 34 _) ?_;intro w4 hb4 k4 d4;have HG4:=Lib.hid (show Grew w3 w4 from Keeps.then_ ((Grew.refl w3).alloc _) k4 (fun i hi e=>by omega));have HB4:=Lib.hid hb4;clear k4 d4 hb4 h1o h1l));have hs3:=HR3.out.2.2.1.size;have hs2:=HR2.out.2.size;go_upto_region 6 with(go_at_call 100;(with_reducible refine(HSy.out _ (HR3.out.2.1.grew HG4.out)).mono ?_);rintro e3 w5 ⟨rfl,hp5,hk5⟩;have hb5:=HB4.out.keep hk5 (by have:=HS.out;omega);have HR5:=Lib.hid (And.intro hp5 hk5);clear hp5 hk5);have k15:Keeps (fun i=>i=g) w1 w5:=Keeps.then_ (Keeps.grew (Keeps.then_ HR2.out.2 HR3.out.2.2.1 fun i _ h=>h) HG4.out) HR5.out.2 fun i _ h=>h
    have hb05:=HB0.out.keep k15 (by have:=HS.out;omega);have hl:=HR3.out.2.2.2.1;have ho:=HR3.out.2.2.2.2;have HK15:=Lib.hid k15;clear k15;go_wp2_with(first|((with_reducible refine at_load 34 (.tmp 3) rfl ?_);refine ldN 34 Tryz.underlying34 rfl (.tmp 3) w3.heap.size cs1 34 (by rw[hl];exact infoX) rfl rfl rfl hb5 ?_)|((with_reducible refine at_store 34 (.tmp 2) (.tmp 19) rfl ?_);refine stN 34 (.tmp 2) (.tmp 19) w.heap.size cs1 (numL 0 0) 34 (by rw[hl];exact infoX) (by rw[hl];rfl) ho rfl rfl rfl rfl hb05 ?_;intro w8 hb8 k8 d8));refine bodyPost_ret (results_one rfl rfl (by rw[HR3.out.2.2.2.1];exact infoX) Tryz.underlying34 rfl hb8) rfl ?_;have hs4:=HG4.out.size;have hs5:=HR5.out.2.size;have hs:=HS.out;have hr5:RdEQ w5 (Two 0 w1.heap.size w5.heap.size) e1 cs1:=RdEQ.keep (S:=fun i=>i=g) (fun b hb=>⟨hb.2,by have:=hb.1;omega,.inr (by have:=hb.1;omega),by have:=hb.2;omega⟩) (Keeps.then_ (Grew.keeps HG4.out) HR5.out.2 fun i _ h=>h) _ _ HR3.out.1;obtain⟨h1,h2,h3⟩:=par_up HS.out.1 HS.out.2 HG.out hr5 HR5.out.1 HK15.out k8;exact⟨cs1,rfl,h1,h2,h3⟩
   rw[if_neg hcl]at hp;cases hp
 rw[if_neg hpar]at hp;by_cases hk0:tk=0
 ·rw[if_pos hk0]at hp;rw[show decide (tk=0)=true by simpa using hk0]at HKW;by_cases hgrp:hasB groupL tt=true
  ·rw[if_pos hgrp]at hp;cases hp
  rw[if_neg hgrp]at hp;have hsel:∃(f wd:Nat),e=selE (f:Nat) (wd:Nat) tt:=by
   unfold selP at hp;split at hp
   ·cases hp
   split at hp
   ·split at hp
    ·cases hp
    split at hp
    ·cases hp
    simp only[Option.some.injEq,Prod.mk.injEq]at hp;exact⟨_,_,hp.1.symm⟩
   split at hp
   ·cases hp
   simp only[Option.some.injEq,Prod.mk.injEq]at hp;exact⟨0,0,hp.1.symm⟩
  obtain⟨f,wd,rfl⟩:=hsel;have HTn:=Lib.hid ((ptry_no w1 g n _ ⟨#[40]⟩ HP1.out (by simpa using hpar)).mono (fun _ w' h=>show _∧w1=w' from⟨h.1,h.2.symm⟩));have HIx:=Lib.hid (show ∀w',PTab w'→Calls Tryz.prog 101 #[.slice (some ⟨5,0,none⟩) 5 5,.string tt] w' (FindPost groupL tt w')from fun w' h=>index_any _ groupL tt w' h.1.rd (by decide));have HSe:=Lib.hid (fun w' (h:PSt w' g n ts) (ht:PTab w')=>psel_any w' g n tt ts us f wd h ht.2.1 HLow.out.2.2 hp);have hfd:=fun w'=>run_tokS w' (tk:Nat) tt (tn:Nat) (tf:Nat)
  have HGR:=Lib.hid (show hasB groupL tt=false by simpa using hgrp);clear hk1 hpar hk0 hgrp hp HI HPP;go_upto_region 10 with(first|(go_at_call 99;(first|(with_reducible refine HKN.out.mono ?_)|(with_reducible refine HKW.out.mono ?_));rintro e3 w9 ⟨rfl,rfl⟩)|(go_at_call 79;(with_reducible refine HTn.out.mono ?_);rintro e3 w9 ⟨rfl,rfl⟩)|(go_at_call 98;(with_reducible refine HTk.out.mono ?_);rintro e3 w2 ⟨rfl,hp2,hk2⟩;have HR2:=Lib.hid (And.intro hp2 hk2);clear hp2 hk2));have ht2:PTab w2:=HT1.out.keep HLow.out HR2.out.2 (fun i hi e=>by omega);have HT2:=Lib.hid ht2;clear ht2;go_upto_region 11 with(go_at_call 101;(with_reducible refine(HIx.out _ HT2.out).mono ?_);rintro e3 w9 ⟨r,rfl,hr,rfl⟩;have HRr:=Lib.hid hr;clear hr);have tneg:decide (r≥0)=false:=by have:=HRr.out;rw[HGR.out]at this;simpa using this
  go_wp2_with(first|(go_at_call 103;(with_reducible refine(HSe.out _ HR2.out.1 HT2.out).mono ?_);rintro e3 w3 ⟨rfl,hp3,hk3⟩;have hb3:=(HB0.out.keep HR2.out.2 (by have:=HS.out;omega)).keep hk3 (by have:=HS.out;omega);have HR3:=Lib.hid (And.intro hp3 hk3);clear hp3 hk3)|((with_reducible refine at_store 34 (.tmp 2) (.tmp 38) rfl ?_);refine stN 34 (.tmp 2) (.tmp 38) w.heap.size (selL (f:Nat) (wd:Nat) tt) (numL 0 0) 34 infoX rfl (selL_ones _ _ _) rfl rfl rfl rfl hb3 ?_;intro w8 hb8 k8 d8));refine bodyPost_ret (results_one rfl rfl infoX Tryz.underlying34 rfl hb8) rfl ?_;have hS:=HS.out;exact⟨selL (f:Nat) (wd:Nat) tt,rfl,RdEQ.mk_ (e:=selE (f:Nat) (wd:Nat) tt) (RdRQ.nil _ _ _) (RdRQ.nil _ _ _) (RdTQ.nil _ _),HR3.out.1.keep k8 (fun i hi e=>by omega),Keeps.then_ (Keeps.then_ (Keeps.then_ (Grew.keeps HG.out) HR2.out.2 fun i hi e=>e) HR3.out.2 fun i hi e=>e) k8 fun i hi e=>by omega⟩
 rw[if_neg hk0]at hp;cases hp
theorem par_zero (l:Nat) (ts:List Tok):parP 0 l ts=none:=by rw[parP.eq_def]
theorem par_all (g:Nat) (n:Int) (hlow:PLow g):∀K,∀k,k≤K→∀ts e us,
  (parP k 0 ts=some (e,us)→∀w,PSt w g n ts→PTab w→Calls Tryz.prog 26 #[.pointer (some ⟨g,0,none⟩)] w (ParPost g n us e w))∧
  (parP k 1 ts=some (e,us)→∀w,PSt w g n ts→PTab w→Calls Tryz.prog 51 #[.pointer (some ⟨g,0,none⟩)] w (ParPost g n us e w))∧
  (parP k 2 ts=some (e,us)→∀w,PSt w g n ts→PTab w→Calls Tryz.prog 80 #[.pointer (some ⟨g,0,none⟩)] w (ParPost g n us e w))
 |K,0,_,ts,e,us=>⟨(fun h=>nomatch(par_zero 0 ts).symm.trans h),(fun h=>nomatch(par_zero 1 ts).symm.trans h),(fun h=>nomatch(par_zero 2 ts).symm.trans h)⟩
 |0,k+1,h,_,_,_=>absurd h (by omega)
 |K+1,k+1,h,ts,e,us=>by
  have ih:=par_all g n hlow K;refine⟨fun hp w h1 h2=>pexp_any k g n hlow (fun k' hk' ts e us hp w h1 h2=>(ih k' (by omega) ts e us).2.1 hp w h1 h2) ts us e hp w h1 h2,fun hp w h1 h2=>pterm_any k g n hlow (fun k' hk' ts e us hp w h1 h2=>(ih k' (by omega) ts e us).2.2 hp w h1 h2) ts us e hp w h1 h2,fun hp w h1 h2=>pfac_any k g n hlow (fun k' hk' ts e us hp w h1 h2=>(ih k' (by omega) ts e us).1 hp w h1 h2) ts us e hp w h1 h2⟩
end Go.Proofs.YtcimmbhdcebehaaGreatDoor
namespace Go.Proofs.YtcimmbhdcebehaaGreatDoor
open Go.RowKit
variable {F:Fence} {n:Nat} {P:Program}
section
variable {F:Fence} {n:Nat} {P:Program} {ops:Array Oper} {rest:List Oper} {o:Oper} {a:Act} {w:World} {Q:Exit→Act→World→Prop}
theorem at_storeI (T:TypeId) (x y:Operand) (_:o.op= .store T x y) (h:wpListIn F n P ops Q (o::rest) a w):wpListIn F n P ops Q (o::rest) a w:=h
theorem stN_in (T:TypeId) (x y:Operand) (g:Nat) (vs us:List Value) (t:TypeId) (hT:(P.info? T).map (·.size)=some vs.length) (hl:us.length=vs.length) (h1:∀v∈vs,v.oneCell'=true) (hgd:o.guard=none) (ho:o.op= .store T x y)
  (hx:a.eval x= .pointer (some ⟨g,0,none⟩)) (hy:a.eval y= .agg vs.toArray) (hb:Box w g t us.toArray)
  (h:∀w',Box w' g t vs.toArray→Keeps (fun i=>i=g) w w'→w'.drawn=w.drawn→wpListIn F n P ops Q rest (a.put o.dst undef) w'):wpListIn F n P ops Q (o::rest) a w:=by
 refine wpListIn_plain hgd fun K hK=>?_
 have ht:w.there g 0 vs.toArray.size:=by simpa using hb.thereN 0 vs.length (by omega)
 have hi:(P.info? T).map (·.size)=some vs.toArray.size:=by simpa using hT
 unfold Oper.wpIn;refine⟨by simp[Oper.about,ho],?_⟩;rw[Oper.semAt_plain F _ _ (by rw[ho];intro c hc';cases hc')];unfold execOp;simp only[ho,hx,hy,Instr.storeAt,Instr.sureAddr,Sem.run_bind,Sem.run_pure,Result.andThen_ok,run_storeVar_mid w g 0 T vs.toArray ht hi (all_oneCell_toArray h1)];obtain⟨k1,k2⟩:=setCells_keeps g vs 0 w;have hp:=hb.putN vs 0 (by omega);have e:us.take 0++vs++us.drop (0+vs.length)=vs:=by simp[←hl]
 rw[e]at hp;exact hK _ _ (h _ hp k1 k2)
theorem app_oneR_in {t e:TypeId} {sz bytes base:Nat} {z v:Value} {rows:List (List Value)} (T:SlR P t e sz bytes z) (hgd:o.guard=none) (s x:Operand)
  (ho:o.op= .call { callee:= .builtin .append,args:=#[s,x],argTypes:=#[t,t] })
  (hs:a.eval s=v) (hown:MineR w base e sz v rows) (g c:Nat) (d:List Value) (t':TypeId) (hx:a.eval x= .slice (some ⟨g,0,none⟩) 1 c) (hc1:1≤c) (hb:Box w g t' d.toArray) (hd:d.length=sz) (h1:∀u∈d,u.oneCell'=true)
  (hn:rows.length<1099511627) (hbase:base≤w.heap.size)
  (h:∀r n' cap w',MineR w' base e sz (.slice (some ⟨r,0,none⟩) n' cap) (rows++[d])→Keeps (fun i=>v.ownBlock=some i) w w'→wpListIn F n P ops Q rest (a.put o.dst (.slice (some ⟨r,0,none⟩) n' cap)) w'):wpListIn F n P ops Q (o::rest) a w:=by
 have hr:RdR w w.heap.size sz (.slice (some ⟨g,0,none⟩) 1 c) [d]:=by
  refine⟨_,c,rfl,hc1,fun _=>⟨_,_,rfl,hb.lt,fun j cs hj k u hk=>?_⟩⟩;obtain⟨rfl,rfl⟩:j=0∧d=cs:=by
   cases j with
   |zero=>exact⟨rfl,by simpa using hj⟩
   |succ j=>simp at hj
  rw[Nat.zero_mul,Nat.add_zero,Nat.zero_add,hb.cell];simpa using hk
 refine wpListIn_plain hgd fun K hK=>?_
 obtain⟨v',w',hrun,h2,h3,h4⟩:=run_appR (P:=P) T o.type hown hr (by intro r hr;obtain rfl:=List.mem_singleton.1 hr;exact hd) (by intro r hr;obtain rfl:=List.mem_singleton.1 hr;exact h1) (by simp;omega) hbase;unfold Oper.wpIn;refine⟨by simp[Oper.about,ho,resolve,Target.leads,Sem.run_pure],?_⟩;rw[Oper.semAt_plain F _ _ (by rw[ho];intro c hc';cases hc')];simp only[execOp,ho,resolve,invoke,builtin,Sem.run_bind,Sem.run_pure,Result.andThen_ok,List.map_toArray,List.map_cons,List.map_nil,hs,hx,hrun];rcases h2.form with⟨_,hh⟩|⟨g',cap',cur,rfl,hb',hbox,_⟩
 ·simp at hh
 exact hK _ _ (h g' _ cap' w' h2 h3)
end
end Go.Proofs.YtcimmbhdcebehaaGreatDoor
