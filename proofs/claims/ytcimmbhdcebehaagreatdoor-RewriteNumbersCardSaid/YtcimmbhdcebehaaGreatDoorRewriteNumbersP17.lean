/- What the card of the law stands on: FDiv, PFold, PFoldN. -/
import Derived.Test.YtcimmbhdcebehaaGreatDoorRewriteNumbersP01
import Derived.Test.YtcimmbhdcebehaaGreatDoorRewriteNumbersP16
import Derived.Test.YtcimmbhdcebehaaGreatDoorRewriteNumbersP11
set_option maxRecDepth 100000
set_option maxHeartbeats 12800000
set_option linter.unusedVariables false
set_option linter.unusedSimpArgs false
namespace Go.Proofs.YtcimmbhdcebehaaGreatDoor
open Go.RowKit Pl
theorem fsub_any (n1 d1 n2 d2:Int) (w:World) (hn1:I64 n1) (hd1:I64 d1) (hn2:I64 n2) (hd2:I64 d2):Calls Tryz.prog 12 #[.agg (fracL n1 d1).toArray,.agg (fracL n2 d2).toArray] w fun e w'=>e= .returned (fracR (subF n1 d1 n2 d2))∧Grew w w':=by
 obtain⟨hb1,hb2,hb3,hG3⟩:=boxes3 w 23 23 23 (fracL n1 d1).toArray (fracL n2 d2).toArray (fracL 0 0).toArray;have HV1:=Lib.hid (fun w'=>fval_any n1 d1 w' hn1 hd1);have HV2:=Lib.hid (fun w'=>fval_any n2 d2 w' hn2 hd2);obtain⟨v1,hv1⟩:∃v:Bool,validF n1 d1=v:=⟨_,rfl⟩;obtain⟨v2,hv2⟩:∃v:Bool,validF n2 d2=v:=⟨_,rfl⟩;rw[hv1]at HV1;rw[hv2]at HV2;go_enter Tryz.func12,Tryz.ntmps12;go_upto_region 1 with fail;change Code.wp _ _ _ _ (((w.alloc (.cells (fracL n1 d1).toArray 23)).alloc (.cells (fracL n2 d2).toArray 23)).alloc (.cells (fracL 0 0).toArray 23));generalize ((w.alloc (.cells (fracL n1 d1).toArray 23)).alloc (.cells (fracL n2 d2).toArray 23)).alloc (.cells (fracL 0 0).toArray 23)=w3 at*;cases v1
 ·have HB:=Lib.hid (subF_bad (n2:=n2) (d2:=d2) (.inl hv1));clear hv1 hv2;go_upto_region 2 with(first|(refine ldN 23 Tryz.underlying23 rfl (.tmp 2) (w.heap.size) (fracL n1 d1) 23 infoF rfl rfl rfl hb1 ?_)|(go_at_call 34;(with_reducible refine(HV1.out _).mono ?_);rintro e w4 ⟨rfl,k4⟩;have hc1:=hb1.grew k4;have hc2:=hb2.grew k4;have hc3:=hb3.grew k4;have hG4:=hG3.trans k4));have he3:=hc3;have hG5:=hG4;go_wp2_with(refine stN 23 (.tmp 4) (.tmp 14) (w.heap.size+1+1) (fracL 0 0) (fracL 0 0) 23 infoF rfl (fracL_ones _ _) rfl rfl rfl rfl he3 ?_;intro w8 hb8 k8 d8);refine bodyPost_ret (results_frac rfl rfl rfl infoF Tryz.underlying23 rfl hb8) rfl ?_;rw[HB.out];exact⟨rfl,Keeps.then_ hG5 k8 (fun i hi e=>by omega)⟩
 cases v2
 ·have HB:=Lib.hid (subF_bad (n1:=n1) (d1:=d1) (.inr hv2));clear hv1 hv2;go_upto_region 2 with(first|(refine ldN 23 Tryz.underlying23 rfl (.tmp 2) (w.heap.size) (fracL n1 d1) 23 infoF rfl rfl rfl hb1 ?_)|(refine ldG rfl 23 Tryz.underlying23 rfl (.tmp 3) (w.heap.size+1) (fracL n2 d2) 23 infoF rfl rfl hc2 ?_)|(go_at_call 34;(with_reducible refine(HV1.out _).mono ?_);rintro e w4 ⟨rfl,k4⟩;have hc1:=hb1.grew k4;have hc2:=hb2.grew k4;have hc3:=hb3.grew k4;have hG4:=hG3.trans k4)|(go_at_call 34;(with_reducible refine(HV2.out _).mono ?_);rintro e w5 ⟨rfl,k5⟩;have he1:=hc1.grew k5;have he2:=hc2.grew k5;have he3:=hc3.grew k5;have hG5:=hG4.trans k5));go_wp2_with(refine stN 23 (.tmp 4) (.tmp 14) (w.heap.size+1+1) (fracL 0 0) (fracL 0 0) 23 infoF rfl (fracL_ones _ _) rfl rfl rfl rfl he3 ?_;intro w8 hb8 k8 d8);refine bodyPost_ret (results_frac rfl rfl rfl infoF Tryz.underlying23 rfl hb8) rfl ?_;rw[HB.out];exact⟨rfl,Keeps.then_ hG5 k8 (fun i hi e=>by omega)⟩
 go_upto_region 3 with(first|(refine ldN 23 Tryz.underlying23 rfl (.tmp 2) (w.heap.size) (fracL n1 d1) 23 infoF rfl rfl rfl hb1 ?_)|(refine ldG rfl 23 Tryz.underlying23 rfl (.tmp 3) (w.heap.size+1) (fracL n2 d2) 23 infoF rfl rfl hc2 ?_)|(go_at_call 34;(with_reducible refine(HV1.out _).mono ?_);rintro e w4 ⟨rfl,k4⟩;have hc1:=hb1.grew k4;have hc2:=hb2.grew k4;have hc3:=hb3.grew k4;have hG4:=hG3.trans k4)|(go_at_call 34;(with_reducible refine(HV2.out _).mono ?_);rintro e w5 ⟨rfl,k5⟩;have he1:=hc1.grew k5;have he2:=hc2.grew k5;have he3:=hc3.grew k5;have hG5:=hG4.trans k5));clear hb1 hb2 hb3 hG3 k4 hc1 hc2 hc3 hG4 k5 HV1 HV2;obtain⟨b1,b2,b3,b4,b5⟩:=valid_nums hv2;have c1:w5.cell? ⟨w.heap.size+1,0,none⟩=some (.int .i64 n2):=he2.cell 0;have c2:w5.cell? ⟨w.heap.size+1,1,none⟩=some (.int .i64 d2):=he2.cell 1;have HA:=fun w'=>fadd_any n1 d1 (-n2) d2 w' hn1 hd1 ⟨by omega,by omega⟩ hd2
 obtain⟨⟨x,y,er⟩,hp⟩:∃r,addF n1 d1 (-n2) d2=r:=⟨_,rfl⟩;have HB:Hid (subF n1 d1 n2 d2=(x,y,er)):=Lib.hid ((subF_ok hv1 hv2).trans hp);rw[hp]at HA;simp only[fracR]at HA;replace HA:=Lib.hid HA;have e1:IntKind.i64.wrap (-n2)= -n2:=IntWalk.i64_in _ (by omega);clear hv1 hv2 b1 b2 b3 b4 b5 hp hn1 hd1 hn2 hd2;go_wp2_with(first|(refine ldN 23 Tryz.underlying23 rfl (.tmp 2) (w.heap.size) (fracL n1 d1) 23 infoF rfl rfl rfl he1 ?_)|(go_at_call 11;refine(HA.out _).mono ?_;rintro e w6 ⟨rfl,k6⟩;have hd3:=he3.grew k6;have hG6:=hG5.trans k6)|(refine stN 23 (.tmp 4) (.tmp 23) (w.heap.size+1+1) (fracL x y) (fracL 0 0) 23 infoF rfl (fracL_ones _ _) rfl rfl rfl rfl hd3 ?_;intro w8 hb8 k8 d8));refine bodyPost_ret (results_frac rfl rfl rfl infoF Tryz.underlying23 rfl hb8) rfl ?_;rw[HB.out];exact⟨rfl,Keeps.then_ hG6 k8 (fun i hi e=>by omega)⟩
theorem fdiv_any (n1 d1 n2 d2:Int) (w:World) (hn1:I64 n1) (hd1:I64 d1) (hn2:I64 n2) (hd2:I64 d2):Calls Tryz.prog 14 #[.agg (fracL n1 d1).toArray,.agg (fracL n2 d2).toArray] w fun e w'=>e= .returned (fracR (divF n1 d1 n2 d2))∧Grew w w':=by
 obtain⟨hb1,hb2,hb3,hG3⟩:=boxes3 w 23 23 23 (fracL n1 d1).toArray (fracL n2 d2).toArray (fracL 0 0).toArray;have HV1:=Lib.hid (fun w'=>fval_any n1 d1 w' hn1 hd1);have HV2:=Lib.hid (fun w'=>fval_any n2 d2 w' hn2 hd2);obtain⟨v1,hv1⟩:∃v:Bool,validF n1 d1=v:=⟨_,rfl⟩;obtain⟨v2,hv2⟩:∃v:Bool,validF n2 d2=v:=⟨_,rfl⟩;rw[hv1]at HV1;rw[hv2]at HV2;go_enter Tryz.func14,Tryz.ntmps14;go_upto_region 1 with fail;change Code.wp _ _ _ _ (((w.alloc (.cells (fracL n1 d1).toArray 23)).alloc (.cells (fracL n2 d2).toArray 23)).alloc (.cells (fracL 0 0).toArray 23));generalize ((w.alloc (.cells (fracL n1 d1).toArray 23)).alloc (.cells (fracL n2 d2).toArray 23)).alloc (.cells (fracL 0 0).toArray 23)=w3 at*;cases v1
 ·have HB:=Lib.hid (divF_bad (n2:=n2) (d2:=d2) (.inl hv1));clear hv1 hv2;go_upto_region 2 with(first|(refine ldN 23 Tryz.underlying23 rfl (.tmp 2) (w.heap.size) (fracL n1 d1) 23 infoF rfl rfl rfl hb1 ?_)|(go_at_call 34;(with_reducible refine(HV1.out _).mono ?_);rintro e w4 ⟨rfl,k4⟩;have hc1:=hb1.grew k4;have hc2:=hb2.grew k4;have hc3:=hb3.grew k4;have hG4:=hG3.trans k4));have he3:=hc3;have hG5:=hG4;go_wp2_with(refine stN 23 (.tmp 4) (.tmp 14) (w.heap.size+1+1) (fracL 0 0) (fracL 0 0) 23 infoF rfl (fracL_ones _ _) rfl rfl rfl rfl he3 ?_;intro w8 hb8 k8 d8);refine bodyPost_ret (results_frac rfl rfl rfl infoF Tryz.underlying23 rfl hb8) rfl ?_;rw[HB.out];exact⟨rfl,Keeps.then_ hG5 k8 (fun i hi e=>by omega)⟩
 cases v2
 ·have HB:=Lib.hid (divF_bad (n1:=n1) (d1:=d1) (.inr hv2));clear hv1 hv2;go_upto_region 2 with(first|(refine ldN 23 Tryz.underlying23 rfl (.tmp 2) (w.heap.size) (fracL n1 d1) 23 infoF rfl rfl rfl hb1 ?_)|(refine ldG rfl 23 Tryz.underlying23 rfl (.tmp 3) (w.heap.size+1) (fracL n2 d2) 23 infoF rfl rfl hc2 ?_)|(go_at_call 34;(with_reducible refine(HV1.out _).mono ?_);rintro e w4 ⟨rfl,k4⟩;have hc1:=hb1.grew k4;have hc2:=hb2.grew k4;have hc3:=hb3.grew k4;have hG4:=hG3.trans k4)|(go_at_call 34;(with_reducible refine(HV2.out _).mono ?_);rintro e w5 ⟨rfl,k5⟩;have he1:=hc1.grew k5;have he2:=hc2.grew k5;have he3:=hc3.grew k5;have hG5:=hG4.trans k5));go_wp2_with(refine stN 23 (.tmp 4) (.tmp 14) (w.heap.size+1+1) (fracL 0 0) (fracL 0 0) 23 infoF rfl (fracL_ones _ _) rfl rfl rfl rfl he3 ?_;intro w8 hb8 k8 d8);refine bodyPost_ret (results_frac rfl rfl rfl infoF Tryz.underlying23 rfl hb8) rfl ?_;rw[HB.out];exact⟨rfl,Keeps.then_ hG5 k8 (fun i hi e=>by omega)⟩
 go_upto_region 3 with(first|(refine ldN 23 Tryz.underlying23 rfl (.tmp 2) (w.heap.size) (fracL n1 d1) 23 infoF rfl rfl rfl hb1 ?_)|(refine ldG rfl 23 Tryz.underlying23 rfl (.tmp 3) (w.heap.size+1) (fracL n2 d2) 23 infoF rfl rfl hc2 ?_)|(go_at_call 34;(with_reducible refine(HV1.out _).mono ?_);rintro e w4 ⟨rfl,k4⟩;have hc1:=hb1.grew k4;have hc2:=hb2.grew k4;have hc3:=hb3.grew k4;have hG4:=hG3.trans k4)|(go_at_call 34;(with_reducible refine(HV2.out _).mono ?_);rintro e w5 ⟨rfl,k5⟩;have he1:=hc1.grew k5;have he2:=hc2.grew k5;have he3:=hc3.grew k5;have hG5:=hG4.trans k5));clear hb1 hb2 hb3 hG3 k4 hc1 hc2 hc3 hG4 k5 HV1 HV2;obtain⟨b1,b2,b3,b4,b5⟩:=valid_nums hv2;have c1:w5.cell? ⟨w.heap.size+1,0,none⟩=some (.int .i64 n2):=he2.cell 0;have c2:w5.cell? ⟨w.heap.size+1,1,none⟩=some (.int .i64 d2):=he2.cell 1;by_cases h0:n2=0
 ·have HB:=Lib.hid (divF_zero hv1 hv2 h0);have t0:(n2==0)=true:=by simpa using h0
  clear hv1 hv2 h0 b1 b2 b3 b4 b5;go_upto_region 4 with fail;go_wp2_with(refine stN 23 (.tmp 4) (.tmp 19) (w.heap.size+1+1) (fracL 0 0) (fracL 0 0) 23 infoF rfl (fracL_ones _ _) rfl rfl rfl rfl he3 ?_;intro w8 hb8 k8 d8);refine bodyPost_ret (results_frac rfl rfl rfl infoF Tryz.underlying23 rfl hb8) rfl ?_;rw[HB.out];exact⟨rfl,Keeps.then_ hG5 k8 (fun i hi e=>by omega)⟩
 have t0:(n2==0)=false:=by simpa using h0
 by_cases h1:n2<0
 ·have t1:decide (n2<0)=true:=by simpa using h1
  have hb0:=divF_neg hv1 hv2 h0 h1;have HM:=fun w'=>fmul_any n1 d1 (-d2) (-n2) w' hn1 hd1 ⟨by omega,by omega⟩ ⟨by omega,by omega⟩
  have e1:IntKind.i64.wrap (-n2)= -n2:=IntWalk.i64_in _ (by omega);have e2:IntKind.i64.wrap (-d2)= -d2:=IntWalk.i64_in _ (by omega);obtain⟨⟨x,y,er⟩,hp⟩:∃r,mulF n1 d1 (-d2) (-n2)=r:=⟨_,rfl⟩;rw[hp]at hb0 HM;have HB:=Lib.hid hb0;simp only[fracR]at HM;replace HM:=Lib.hid HM;clear hv1 hv2 b1 b2 b3 b4 b5 hp h0 h1 hb0 hn1 hd1 hn2 hd2;go_upto_region 6 with fail;go_wp2_with(first|(refine ldN 23 Tryz.underlying23 rfl (.tmp 2) (w.heap.size) (fracL n1 d1) 23 infoF rfl rfl rfl he1 ?_)|(go_at_call 13;refine(HM.out _).mono ?_;rintro e w6 ⟨rfl,k6⟩;have hd3:=he3.grew k6;have hG6:=hG5.trans k6)|(refine stN 23 (.tmp 4) (.tmp 33) (w.heap.size+1+1) (fracL x y) (fracL 0 0) 23 infoF rfl (fracL_ones _ _) rfl rfl rfl rfl hd3 ?_;intro w8 hb8 k8 d8));refine bodyPost_ret (results_frac rfl rfl rfl infoF Tryz.underlying23 rfl hb8) rfl ?_;rw[HB.out];exact⟨rfl,Keeps.then_ hG6 k8 (fun i hi e=>by omega)⟩
 have t1:decide (n2<0)=false:=by simpa using h1
 have hb0:=divF_pos hv1 hv2 h0 h1;have HM:=fun w'=>fmul_any n1 d1 d2 n2 w' hn1 hd1 hd2 hn2
 obtain⟨⟨x,y,er⟩,hp⟩:∃r,mulF n1 d1 d2 n2=r:=⟨_,rfl⟩;rw[hp]at hb0 HM;have HB:=Lib.hid hb0;simp only[fracR]at HM;replace HM:=Lib.hid HM;clear hv1 hv2 b1 b2 b3 b4 b5 hp h0 h1 hb0 hn1 hd1 hn2 hd2;go_upto_region 7 with fail;go_wp2_with(first|(refine ldN 23 Tryz.underlying23 rfl (.tmp 2) (w.heap.size) (fracL n1 d1) 23 infoF rfl rfl rfl he1 ?_)|(go_at_call 13;refine(HM.out _).mono ?_;rintro e w6 ⟨rfl,k6⟩;have hd3:=he3.grew k6;have hG6:=hG5.trans k6)|(refine stN 23 (.tmp 4) (.tmp 42) (w.heap.size+1+1) (fracL x y) (fracL 0 0) 23 infoF rfl (fracL_ones _ _) rfl rfl rfl rfl hd3 ?_;intro w8 hb8 k8 d8));refine bodyPost_ret (results_frac rfl rfl rfl infoF Tryz.underlying23 rfl hb8) rfl ?_;rw[HB.out];exact⟨rfl,Keeps.then_ hG6 k8 (fun i hi e=>by omega)⟩
theorem infoA4:(Tryz.prog.info? 120).map (·.size)=some 4:=by kernel_rfl
theorem pfold_two (fn:Int) (ea eb:Ex) (v1 v2 v3 v4 v5 v6:Value) (w:World) (ha:ea.kind=0) (hb:eb.kind=0) (hfn:0≤fn∧fn≤3) (hn1:I64 ea.num) (hd1:I64 ea.den) (hn2:I64 eb.num) (hd2:I64 eb.den) (x y er:Int) (hap:applyF fn ea.num ea.den eb.num eb.den=(x,y,er)):
  Calls Tryz.prog 55 #[.int .i64 fn,.agg (cells11 ea v1 v2 v3).toArray,.agg (cells11 eb v4 v5 v6).toArray] w fun e' w'=>e'= .returned (.tuple #[.agg (numL x y).toArray,.bool (er==0)])∧Grew w w':=by
 obtain⟨hb1,hb2,hb3,hG⟩:=boxes3 w 34 34 34 (cells11 ea v1 v2 v3).toArray (cells11 eb v4 v5 v6).toArray (numL 0 0).toArray;go_enter Tryz.func55,Tryz.ntmps55;go_upto_region 1 with fail;change Code.wp _ _ _ _ (((w.alloc (.cells (cells11 ea v1 v2 v3).toArray 34)).alloc (.cells (cells11 eb v4 v5 v6).toArray 34)).alloc (.cells (numL 0 0).toArray 34));generalize ((w.alloc (.cells (cells11 ea v1 v2 v3).toArray 34)).alloc (.cells (cells11 eb v4 v5 v6).toArray 34)).alloc (.cells (numL 0 0).toArray 34)=w1 at*;have c0:w1.cell? ⟨w.heap.size,0,none⟩=some (.int .i64 0):=by have:w1.cell? ⟨w.heap.size,0,none⟩=some (.int .i64 ea.kind):=hb1.cell 0;rw[ha]at this;exact this
 have d0:w1.cell? ⟨w.heap.size+1,0,none⟩=some (.int .i64 0):=by have:w1.cell? ⟨w.heap.size+1,0,none⟩=some (.int .i64 eb.kind):=hb2.cell 0;rw[hb]at this;exact this
 have HB1:=Lib.hid (And.intro hb1 (And.intro hb2 (And.intro hb3 hG)));clear hb1 hb2 hb3 hG ha hb;go_upto_region 4 with(first|((with_reducible refine at_store 120 (.tmp 8) (.tmp 20) rfl ?_);refine stN 120 (.tmp 8) (.tmp 20) (w1.heap.size) [.func (.func 11) #[] #[],.func (.func 12) #[] #[],.func (.func 13) #[] #[],.func (.func 14) #[] #[]] [.nilFunc,.nilFunc,.nilFunc,.nilFunc] 120 infoA4 rfl (by intro v hv;simp at hv;rcases hv with rfl|rfl|rfl|rfl<;>rfl) rfl rfl rfl rfl (Box.new w1 120 _) ?_;intro w3 hb8 k8 d8;have g3:Grew w1 w3:=Keeps.then_ ((Grew.refl w1).alloc _) k8 (fun i hi e=>by omega)));have HB:=Lib.hid (show(∀w',Grew w3 w'→w'.rangeAt w.heap.size 5 (fracL ea.num ea.den))∧(∀w',Grew w3 w'→w'.rangeAt (w.heap.size+1) 5 (fracL eb.num eb.den))∧Box w3 (w.heap.size+1+1) 34 (numL 0 0).toArray∧Grew w w3 from⟨fun w' g=>(HB1.out.1.grew (g3.trans g)).rangeN 5 (fracL ea.num ea.den) rfl,fun w' g=>(HB1.out.2.1.grew (g3.trans g)).rangeN 5 (fracL eb.num eb.den) rfl,HB1.out.2.2.1.grew g3,HB1.out.2.2.2.trans g3⟩);clear c0 d0 HB1 k8 g3;generalize w1.heap.size=z8 at*;generalize ea.num=n1 at*;generalize ea.den=d1 at*;generalize eb.num=n2 at*;generalize eb.den=d2 at*;obtain rfl|rfl|rfl|rfl:fn=0∨fn=1∨fn=2∨fn=3:=by omega
 ·have HAP:=Lib.hid (fun w'=>fadd_any n1 d1 n2 d2 w' hn1 hd1 hn2 hd2);rw[show addF n1 d1 n2 d2=(x,y,er)from hap]at HAP;simp only[fracR]at HAP;have a0:w3.cell? ⟨z8,0,none⟩=some (.func (.func 11) #[] #[]):=hb8.cell 0;have HRW:=Lib.hid (show ∀w',Grew w3.drew w'→w'.cell? ⟨z8,0,none⟩=some (.func (.func 11) #[] #[])∧w'.rangeAt w.heap.size 5 (fracL n1 d1)∧w'.rangeAt (w.heap.size+1) 5 (fracL n2 d2)from fun w' g=>⟨((hb8.drewN 1).grew g).cell 0,(HB.out.1 _ ((Keeps.drew (Grew.refl w3)).trans g)),(HB.out.2.1 _ ((Keeps.drew (Grew.refl w3)).trans g))⟩);clear hap hn1 hd1 hn2 hd2 hb8 a0;refine region_store (by kernel_rfl) 12 11 9 [10,13] [.int .i64 0,.pointer (some ⟨z8,0,none⟩),.func (.func 11) #[] #[],.pointer (some ⟨w.heap.size,5,none⟩),.agg (fracL n1 d1).toArray,.pointer (some ⟨w.heap.size+1,5,none⟩),.agg (fracL n2 d2).toArray,.tuple #[.agg (fracL x y).toArray,.int .i64 er],.tuple #[.agg (fracL x y).toArray,.int .i64 er],.agg (fracL x y).toArray,.int .i64 er,undef,undef,.int .i64 er] 23 (fracL 0 0) _ (by kernel_rfl) (by kernel_rfl) (by decide) (by decide) (by decide) (of_decide_eq_true (by kernel_rfl)) rfl (of_decide_eq_true (by kernel_rfl)) (by kernel_rfl) ?hH ?hal (fracL x y) (.tmp 9) (.tmp 30) 23 _ rfl rfl rfl (by simp[Op.operands]) (by simp[Op.operands]) infoF rfl (fracL_ones _ _) (fun z=>by kernel_rfl) (fun z=>by kernel_rfl) ?hT
  case hH=>
   simp only[List.toList_toArray,List.take_succ_cons,List.take_zero,putAll,Act.put,List.setIfInBounds_toArray,List.set_cons_zero,List.set_cons_succ];refine headS_grow (by decide) (fun z w' hg=>?_) ?_
   ·go_simp;exact Grew.refl _
   refine headS_grow (by decide) (fun z w' hg=>?_) ?_
   ·go_simp;exact Grew.refl _
   refine headS_grow (by decide) (fun z w' hg=>?_) ?_
   ·obtain⟨g1,g2,g3⟩:=HRW.out _ hg;go_simp;exact Grew.refl _
   refine headS_grow (by decide) (fun z w' hg=>?_) ?_
   ·go_simp;exact Grew.refl _
   refine headS_grow (by decide) (fun z w' hg=>?_) ?_
   ·obtain⟨g1,g2,g3⟩:=HRW.out _ hg;refine wp_load_mid 23 (.tmp 25) rfl (w.heap.size) 5 rfl (fracL n1 d1) _ g2 Tryz.underlying23 rfl infoF ?_;exact⟨rfl,Grew.refl _⟩
   refine headS_grow (by decide) (fun z w' hg=>?_) ?_
   ·go_simp;exact Grew.refl _
   refine headS_grow (by decide) (fun z w' hg=>?_) ?_
   ·obtain⟨g1,g2,g3⟩:=HRW.out _ hg;refine wp_load_mid 23 (.tmp 27) rfl (w.heap.size+1) 5 rfl (fracL n2 d2) _ g3 Tryz.underlying23 rfl infoF ?_;exact⟨rfl,Grew.refl _⟩
   refine headS_grow (by decide) (fun z w' hg=>?_) ?_
   ·go_simp;(with_reducible refine(HAP.out _).mono ?_);rintro e wq ⟨rfl,kq⟩;exact⟨rfl,kq⟩
   refine headS_grow (by decide) (fun z w' hg=>?_) ?_
   ·go_simp;exact Grew.refl _
   refine headS_grow (by decide) (fun z w' hg=>?_) ?_
   ·go_simp;exact Grew.refl _
   refine headS_pure (by decide) (fun z w'=>?_) ?_
   ·go_simp
   refine headS_alloc (by decide) ?_;refine headS_store (by decide) ?_;refine headS_pure (by decide) (fun z w'=>?_) ?_
   ·go_simp
   exact headS_nil
  case hal=>
   intro o1 ho a1 w4 K hK;obtain rfl:=Option.some.inj ho;go_simp;exact hK _ rfl
  case hT=>
   intro z wz hz hbz hgz;dsimp only;simp only[List.toList_toArray,List.take_succ_cons,List.take_zero,putAll,Act.put,List.setIfInBounds_toArray,List.set_cons_zero,List.set_cons_succ];have m2:=HB.out.2.2.1.grew hgz;have hGz:=HB.out.2.2.2.trans hgz;obtain⟨eb2,heb⟩:∃q:Bool,(er==0)=q:=⟨_,rfl⟩;clear HRW HB hgz hz;go_wp2_with(first|((with_reducible refine at_load 23 (.tmp 9) rfl ?_);refine ldN 23 Tryz.underlying23 rfl (.tmp 9) z [.int .i64 x,.int .i64 y] 23 infoF rfl rfl rfl hbz ?_)|((with_reducible refine at_store 34 (.tmp 6) (.tmp 33) rfl ?_);refine stN 34 (.tmp 6) (.tmp 33) (w.heap.size+1+1) (numL x y) (numL 0 0) 34 infoX rfl (numL_ones _ _) rfl rfl rfl rfl m2 ?_;intro w8 hb8 k8 d8));refine bodyPost_ret (results_ex rfl rfl rfl infoX Tryz.underlying34 rfl hb8) rfl ?_;exact⟨by rw[heb];rfl,Keeps.then_ hGz k8 (fun i hi e=>by omega)⟩
 ·have HAP:=Lib.hid (fun w'=>fsub_any n1 d1 n2 d2 w' hn1 hd1 hn2 hd2);rw[show subF n1 d1 n2 d2=(x,y,er)from hap]at HAP;simp only[fracR]at HAP;have a0:w3.cell? ⟨z8,1,none⟩=some (.func (.func 12) #[] #[]):=hb8.cell 1;have HRW:=Lib.hid (show ∀w',Grew w3.drew w'→w'.cell? ⟨z8,1,none⟩=some (.func (.func 12) #[] #[])∧w'.rangeAt w.heap.size 5 (fracL n1 d1)∧w'.rangeAt (w.heap.size+1) 5 (fracL n2 d2)from fun w' g=>⟨((hb8.drewN 1).grew g).cell 1,(HB.out.1 _ ((Keeps.drew (Grew.refl w3)).trans g)),(HB.out.2.1 _ ((Keeps.drew (Grew.refl w3)).trans g))⟩);clear hap hn1 hd1 hn2 hd2 hb8 a0;refine region_store (by kernel_rfl) 12 11 9 [10,13] [.int .i64 1,.pointer (some ⟨z8,1,none⟩),.func (.func 12) #[] #[],.pointer (some ⟨w.heap.size,5,none⟩),.agg (fracL n1 d1).toArray,.pointer (some ⟨w.heap.size+1,5,none⟩),.agg (fracL n2 d2).toArray,.tuple #[.agg (fracL x y).toArray,.int .i64 er],.tuple #[.agg (fracL x y).toArray,.int .i64 er],.agg (fracL x y).toArray,.int .i64 er,undef,undef,.int .i64 er] 23 (fracL 0 0) _ (by kernel_rfl) (by kernel_rfl) (by decide) (by decide) (by decide) (of_decide_eq_true (by kernel_rfl)) rfl (of_decide_eq_true (by kernel_rfl)) (by kernel_rfl) ?hH ?hal (fracL x y) (.tmp 9) (.tmp 30) 23 _ rfl rfl rfl (by simp[Op.operands]) (by simp[Op.operands]) infoF rfl (fracL_ones _ _) (fun z=>by kernel_rfl) (fun z=>by kernel_rfl) ?hT
  case hH=>
   simp only[List.toList_toArray,List.take_succ_cons,List.take_zero,putAll,Act.put,List.setIfInBounds_toArray,List.set_cons_zero,List.set_cons_succ];refine headS_grow (by decide) (fun z w' hg=>?_) ?_
   ·go_simp;exact Grew.refl _
   refine headS_grow (by decide) (fun z w' hg=>?_) ?_
   ·go_simp;exact Grew.refl _
   refine headS_grow (by decide) (fun z w' hg=>?_) ?_
   ·obtain⟨g1,g2,g3⟩:=HRW.out _ hg;go_simp;exact Grew.refl _
   refine headS_grow (by decide) (fun z w' hg=>?_) ?_
   ·go_simp;exact Grew.refl _
   refine headS_grow (by decide) (fun z w' hg=>?_) ?_
   ·obtain⟨g1,g2,g3⟩:=HRW.out _ hg;refine wp_load_mid 23 (.tmp 25) rfl (w.heap.size) 5 rfl (fracL n1 d1) _ g2 Tryz.underlying23 rfl infoF ?_;exact⟨rfl,Grew.refl _⟩
   refine headS_grow (by decide) (fun z w' hg=>?_) ?_
   ·go_simp;exact Grew.refl _
   refine headS_grow (by decide) (fun z w' hg=>?_) ?_
   ·obtain⟨g1,g2,g3⟩:=HRW.out _ hg;refine wp_load_mid 23 (.tmp 27) rfl (w.heap.size+1) 5 rfl (fracL n2 d2) _ g3 Tryz.underlying23 rfl infoF ?_;exact⟨rfl,Grew.refl _⟩
   refine headS_grow (by decide) (fun z w' hg=>?_) ?_
   ·go_simp;(with_reducible refine(HAP.out _).mono ?_);rintro e wq ⟨rfl,kq⟩;exact⟨rfl,kq⟩
   refine headS_grow (by decide) (fun z w' hg=>?_) ?_
   ·go_simp;exact Grew.refl _
   refine headS_grow (by decide) (fun z w' hg=>?_) ?_
   ·go_simp;exact Grew.refl _
   refine headS_pure (by decide) (fun z w'=>?_) ?_
   ·go_simp
   refine headS_alloc (by decide) ?_;refine headS_store (by decide) ?_;refine headS_pure (by decide) (fun z w'=>?_) ?_
   ·go_simp
   exact headS_nil
  case hal=>
   intro o1 ho a1 w4 K hK;obtain rfl:=Option.some.inj ho;go_simp;exact hK _ rfl
  case hT=>
   intro z wz hz hbz hgz;dsimp only;simp only[List.toList_toArray,List.take_succ_cons,List.take_zero,putAll,Act.put,List.setIfInBounds_toArray,List.set_cons_zero,List.set_cons_succ];have m2:=HB.out.2.2.1.grew hgz;have hGz:=HB.out.2.2.2.trans hgz;obtain⟨eb2,heb⟩:∃q:Bool,(er==0)=q:=⟨_,rfl⟩;clear HRW HB hgz hz;go_wp2_with(first|((with_reducible refine at_load 23 (.tmp 9) rfl ?_);refine ldN 23 Tryz.underlying23 rfl (.tmp 9) z [.int .i64 x,.int .i64 y] 23 infoF rfl rfl rfl hbz ?_)|((with_reducible refine at_store 34 (.tmp 6) (.tmp 33) rfl ?_);refine stN 34 (.tmp 6) (.tmp 33) (w.heap.size+1+1) (numL x y) (numL 0 0) 34 infoX rfl (numL_ones _ _) rfl rfl rfl rfl m2 ?_;intro w8 hb8 k8 d8));refine bodyPost_ret (results_ex rfl rfl rfl infoX Tryz.underlying34 rfl hb8) rfl ?_;exact⟨by rw[heb];rfl,Keeps.then_ hGz k8 (fun i hi e=>by omega)⟩
 ·have HAP:=Lib.hid (fun w'=>fmul_any n1 d1 n2 d2 w' hn1 hd1 hn2 hd2);rw[show mulF n1 d1 n2 d2=(x,y,er)from hap]at HAP;simp only[fracR]at HAP;have a0:w3.cell? ⟨z8,2,none⟩=some (.func (.func 13) #[] #[]):=hb8.cell 2;have HRW:=Lib.hid (show ∀w',Grew w3.drew w'→w'.cell? ⟨z8,2,none⟩=some (.func (.func 13) #[] #[])∧w'.rangeAt w.heap.size 5 (fracL n1 d1)∧w'.rangeAt (w.heap.size+1) 5 (fracL n2 d2)from fun w' g=>⟨((hb8.drewN 1).grew g).cell 2,(HB.out.1 _ ((Keeps.drew (Grew.refl w3)).trans g)),(HB.out.2.1 _ ((Keeps.drew (Grew.refl w3)).trans g))⟩);clear hap hn1 hd1 hn2 hd2 hb8 a0;refine region_store (by kernel_rfl) 12 11 9 [10,13] [.int .i64 2,.pointer (some ⟨z8,2,none⟩),.func (.func 13) #[] #[],.pointer (some ⟨w.heap.size,5,none⟩),.agg (fracL n1 d1).toArray,.pointer (some ⟨w.heap.size+1,5,none⟩),.agg (fracL n2 d2).toArray,.tuple #[.agg (fracL x y).toArray,.int .i64 er],.tuple #[.agg (fracL x y).toArray,.int .i64 er],.agg (fracL x y).toArray,.int .i64 er,undef,undef,.int .i64 er] 23 (fracL 0 0) _ (by kernel_rfl) (by kernel_rfl) (by decide) (by decide) (by decide) (of_decide_eq_true (by kernel_rfl)) rfl (of_decide_eq_true (by kernel_rfl)) (by kernel_rfl) ?hH ?hal (fracL x y) (.tmp 9) (.tmp 30) 23 _ rfl rfl rfl (by simp[Op.operands]) (by simp[Op.operands]) infoF rfl (fracL_ones _ _) (fun z=>by kernel_rfl) (fun z=>by kernel_rfl) ?hT
  case hH=>
   simp only[List.toList_toArray,List.take_succ_cons,List.take_zero,putAll,Act.put,List.setIfInBounds_toArray,List.set_cons_zero,List.set_cons_succ];refine headS_grow (by decide) (fun z w' hg=>?_) ?_
   ·go_simp;exact Grew.refl _
   refine headS_grow (by decide) (fun z w' hg=>?_) ?_
   ·go_simp;exact Grew.refl _
   refine headS_grow (by decide) (fun z w' hg=>?_) ?_
   ·obtain⟨g1,g2,g3⟩:=HRW.out _ hg;go_simp;exact Grew.refl _
   refine headS_grow (by decide) (fun z w' hg=>?_) ?_
   ·go_simp;exact Grew.refl _
   refine headS_grow (by decide) (fun z w' hg=>?_) ?_
   ·obtain⟨g1,g2,g3⟩:=HRW.out _ hg;refine wp_load_mid 23 (.tmp 25) rfl (w.heap.size) 5 rfl (fracL n1 d1) _ g2 Tryz.underlying23 rfl infoF ?_;exact⟨rfl,Grew.refl _⟩
   refine headS_grow (by decide) (fun z w' hg=>?_) ?_
   ·go_simp;exact Grew.refl _
   refine headS_grow (by decide) (fun z w' hg=>?_) ?_
   ·obtain⟨g1,g2,g3⟩:=HRW.out _ hg;refine wp_load_mid 23 (.tmp 27) rfl (w.heap.size+1) 5 rfl (fracL n2 d2) _ g3 Tryz.underlying23 rfl infoF ?_;exact⟨rfl,Grew.refl _⟩
   refine headS_grow (by decide) (fun z w' hg=>?_) ?_
   ·go_simp;(with_reducible refine(HAP.out _).mono ?_);rintro e wq ⟨rfl,kq⟩;exact⟨rfl,kq⟩
   refine headS_grow (by decide) (fun z w' hg=>?_) ?_
   ·go_simp;exact Grew.refl _
   refine headS_grow (by decide) (fun z w' hg=>?_) ?_
   ·go_simp;exact Grew.refl _
   refine headS_pure (by decide) (fun z w'=>?_) ?_
   ·go_simp
   refine headS_alloc (by decide) ?_;refine headS_store (by decide) ?_;refine headS_pure (by decide) (fun z w'=>?_) ?_
   ·go_simp
   exact headS_nil
  case hal=>
   intro o1 ho a1 w4 K hK;obtain rfl:=Option.some.inj ho;go_simp;exact hK _ rfl
  case hT=>
   intro z wz hz hbz hgz;dsimp only;simp only[List.toList_toArray,List.take_succ_cons,List.take_zero,putAll,Act.put,List.setIfInBounds_toArray,List.set_cons_zero,List.set_cons_succ];have m2:=HB.out.2.2.1.grew hgz;have hGz:=HB.out.2.2.2.trans hgz;obtain⟨eb2,heb⟩:∃q:Bool,(er==0)=q:=⟨_,rfl⟩;clear HRW HB hgz hz;go_wp2_with(first|((with_reducible refine at_load 23 (.tmp 9) rfl ?_);refine ldN 23 Tryz.underlying23 rfl (.tmp 9) z [.int .i64 x,.int .i64 y] 23 infoF rfl rfl rfl hbz ?_)|((with_reducible refine at_store 34 (.tmp 6) (.tmp 33) rfl ?_);refine stN 34 (.tmp 6) (.tmp 33) (w.heap.size+1+1) (numL x y) (numL 0 0) 34 infoX rfl (numL_ones _ _) rfl rfl rfl rfl m2 ?_;intro w8 hb8 k8 d8));refine bodyPost_ret (results_ex rfl rfl rfl infoX Tryz.underlying34 rfl hb8) rfl ?_;exact⟨by rw[heb];rfl,Keeps.then_ hGz k8 (fun i hi e=>by omega)⟩
 have HAP:=Lib.hid (fun w'=>fdiv_any n1 d1 n2 d2 w' hn1 hd1 hn2 hd2);rw[show divF n1 d1 n2 d2=(x,y,er)from hap]at HAP;simp only[fracR]at HAP;have a0:w3.cell? ⟨z8,3,none⟩=some (.func (.func 14) #[] #[]):=hb8.cell 3;have HRW:=Lib.hid (show ∀w',Grew w3.drew w'→w'.cell? ⟨z8,3,none⟩=some (.func (.func 14) #[] #[])∧w'.rangeAt w.heap.size 5 (fracL n1 d1)∧w'.rangeAt (w.heap.size+1) 5 (fracL n2 d2)from fun w' g=>⟨((hb8.drewN 1).grew g).cell 3,(HB.out.1 _ ((Keeps.drew (Grew.refl w3)).trans g)),(HB.out.2.1 _ ((Keeps.drew (Grew.refl w3)).trans g))⟩);clear hap hn1 hd1 hn2 hd2 hb8 a0;refine region_store (by kernel_rfl) 12 11 9 [10,13] [.int .i64 3,.pointer (some ⟨z8,3,none⟩),.func (.func 14) #[] #[],.pointer (some ⟨w.heap.size,5,none⟩),.agg (fracL n1 d1).toArray,.pointer (some ⟨w.heap.size+1,5,none⟩),.agg (fracL n2 d2).toArray,.tuple #[.agg (fracL x y).toArray,.int .i64 er],.tuple #[.agg (fracL x y).toArray,.int .i64 er],.agg (fracL x y).toArray,.int .i64 er,undef,undef,.int .i64 er] 23 (fracL 0 0) _ (by kernel_rfl) (by kernel_rfl) (by decide) (by decide) (by decide) (of_decide_eq_true (by kernel_rfl)) rfl (of_decide_eq_true (by kernel_rfl)) (by kernel_rfl) ?hH ?hal (fracL x y) (.tmp 9) (.tmp 30) 23 _ rfl rfl rfl (by simp[Op.operands]) (by simp[Op.operands]) infoF rfl (fracL_ones _ _) (fun z=>by kernel_rfl) (fun z=>by kernel_rfl) ?hT
 case hH=>
  simp only[List.toList_toArray,List.take_succ_cons,List.take_zero,putAll,Act.put,List.setIfInBounds_toArray,List.set_cons_zero,List.set_cons_succ];refine headS_grow (by decide) (fun z w' hg=>?_) ?_
  ·go_simp;exact Grew.refl _
  refine headS_grow (by decide) (fun z w' hg=>?_) ?_
  ·go_simp;exact Grew.refl _
  refine headS_grow (by decide) (fun z w' hg=>?_) ?_
  ·obtain⟨g1,g2,g3⟩:=HRW.out _ hg;go_simp;exact Grew.refl _
  refine headS_grow (by decide) (fun z w' hg=>?_) ?_
  ·go_simp;exact Grew.refl _
  refine headS_grow (by decide) (fun z w' hg=>?_) ?_
  ·obtain⟨g1,g2,g3⟩:=HRW.out _ hg;refine wp_load_mid 23 (.tmp 25) rfl (w.heap.size) 5 rfl (fracL n1 d1) _ g2 Tryz.underlying23 rfl infoF ?_;exact⟨rfl,Grew.refl _⟩
  refine headS_grow (by decide) (fun z w' hg=>?_) ?_
  ·go_simp;exact Grew.refl _
  refine headS_grow (by decide) (fun z w' hg=>?_) ?_
  ·obtain⟨g1,g2,g3⟩:=HRW.out _ hg;refine wp_load_mid 23 (.tmp 27) rfl (w.heap.size+1) 5 rfl (fracL n2 d2) _ g3 Tryz.underlying23 rfl infoF ?_;exact⟨rfl,Grew.refl _⟩
  refine headS_grow (by decide) (fun z w' hg=>?_) ?_
  ·go_simp;(with_reducible refine(HAP.out _).mono ?_);rintro e wq ⟨rfl,kq⟩;exact⟨rfl,kq⟩
  refine headS_grow (by decide) (fun z w' hg=>?_) ?_
  ·go_simp;exact Grew.refl _
  refine headS_grow (by decide) (fun z w' hg=>?_) ?_
  ·go_simp;exact Grew.refl _
  refine headS_pure (by decide) (fun z w'=>?_) ?_
  ·go_simp
  refine headS_alloc (by decide) ?_;refine headS_store (by decide) ?_;refine headS_pure (by decide) (fun z w'=>?_) ?_
  ·go_simp
  exact headS_nil
 case hal=>
  intro o1 ho a1 w4 K hK;obtain rfl:=Option.some.inj ho;go_simp;exact hK _ rfl
 case hT=>
  intro z wz hz hbz hgz;dsimp only;simp only[List.toList_toArray,List.take_succ_cons,List.take_zero,putAll,Act.put,List.setIfInBounds_toArray,List.set_cons_zero,List.set_cons_succ];have m2:=HB.out.2.2.1.grew hgz;have hGz:=HB.out.2.2.2.trans hgz;obtain⟨eb2,heb⟩:∃q:Bool,(er==0)=q:=⟨_,rfl⟩;clear HRW HB hgz hz;go_wp2_with(first|((with_reducible refine at_load 23 (.tmp 9) rfl ?_);refine ldN 23 Tryz.underlying23 rfl (.tmp 9) z [.int .i64 x,.int .i64 y] 23 infoF rfl rfl rfl hbz ?_)|((with_reducible refine at_store 34 (.tmp 6) (.tmp 33) rfl ?_);refine stN 34 (.tmp 6) (.tmp 33) (w.heap.size+1+1) (numL x y) (numL 0 0) 34 infoX rfl (numL_ones _ _) rfl rfl rfl rfl m2 ?_;intro w8 hb8 k8 d8));refine bodyPost_ret (results_ex rfl rfl rfl infoX Tryz.underlying34 rfl hb8) rfl ?_;exact⟨by rw[heb];rfl,Keeps.then_ hGz k8 (fun i hi e=>by omega)⟩
theorem pfold_not (fn:Int) (ea eb:Ex) (v1 v2 v3 v4 v5 v6:Value) (w:World) (hab:¬(ea.kind=0∧eb.kind=0)):
  Calls Tryz.prog 55 #[.int .i64 fn,.agg (cells11 ea v1 v2 v3).toArray,.agg (cells11 eb v4 v5 v6).toArray] w fun e' w'=>e'= .returned (.tuple #[.agg (numL 0 0).toArray,.bool false])∧Grew w w':=by
 obtain⟨hb1,hb2,hb3,hG⟩:=boxes3 w 34 34 34 (cells11 ea v1 v2 v3).toArray (cells11 eb v4 v5 v6).toArray (numL 0 0).toArray;go_enter Tryz.func55,Tryz.ntmps55;go_upto_region 1 with fail;change Code.wp _ _ _ _ (((w.alloc (.cells (cells11 ea v1 v2 v3).toArray 34)).alloc (.cells (cells11 eb v4 v5 v6).toArray 34)).alloc (.cells (numL 0 0).toArray 34));generalize ((w.alloc (.cells (cells11 ea v1 v2 v3).toArray 34)).alloc (.cells (cells11 eb v4 v5 v6).toArray 34)).alloc (.cells (numL 0 0).toArray 34)=w1 at*;have c0:w1.cell? ⟨w.heap.size,0,none⟩=some (.int .i64 ea.kind):=hb1.cell 0;have d0:w1.cell? ⟨w.heap.size+1,0,none⟩=some (.int .i64 eb.kind):=hb2.cell 0;have HG:=Lib.hid hG;clear hG hb1 hb2;by_cases ha:ea.kind=0
 ·have hb:¬eb.kind=0:=fun h=>hab ⟨ha,h⟩
  have t1:(ea.kind==0)=true:=by rw[beq_iff_eq];exact ha
  have t1':(ea.kind !=0)=false:=by rw[bne,t1];rfl
  have t2:(eb.kind==0)=false:=by rw[beq_eq_false_iff_ne];exact hb
  have t2':(eb.kind !=0)=true:=by rw[bne,t2];rfl
  clear ha hb hab;go_wp2_with(first|((with_reducible refine at_store 34 (.tmp 6) (.tmp 19) rfl ?_);refine stN 34 (.tmp 6) (.tmp 19) (w.heap.size+1+1) (numL 0 0) (numL 0 0) 34 infoX rfl (numL_ones _ _) rfl rfl rfl rfl hb3 ?_;intro w8 hb8 k8 d8));refine bodyPost_ret (results_ex rfl rfl rfl infoX Tryz.underlying34 rfl hb8) rfl ?_;exact⟨rfl,Keeps.then_ HG.out k8 (fun i hi e=>by omega)⟩
 have t1:(ea.kind==0)=false:=by rw[beq_eq_false_iff_ne];exact ha
 have t1':(ea.kind !=0)=true:=by rw[bne,t1];rfl
 clear ha hab;go_wp2_with(first|((with_reducible refine at_store 34 (.tmp 6) (.tmp 19) rfl ?_);refine stN 34 (.tmp 6) (.tmp 19) (w.heap.size+1+1) (numL 0 0) (numL 0 0) 34 infoX rfl (numL_ones _ _) rfl rfl rfl rfl hb3 ?_;intro w8 hb8 k8 d8));refine bodyPost_ret (results_ex rfl rfl rfl infoX Tryz.underlying34 rfl hb8) rfl ?_;exact⟨rfl,Keeps.then_ HG.out k8 (fun i hi e=>by omega)⟩
end Go.Proofs.YtcimmbhdcebehaaGreatDoor
