/- What the card of the law stands on: FDiv, PFold, PFoldN, PSimp. -/
import Derived.Test.YthpflelgbadkcaaGreatDoorRewriteReadsP01
import Derived.Test.YthpflelgbadkcaaGreatDoorRewriteReadsP15
import Derived.Test.YthpflelgbadkcaaGreatDoorRewriteReadsP10
import Derived.Deep.DeepCutAuto
set_option maxRecDepth 100000
set_option maxHeartbeats 12800000
set_option linter.unusedVariables false
set_option linter.unusedSimpArgs false
namespace Go.Proofs.YthpflelgbadkcaaGreatDoor
open Go.RowKit Pl
theorem Ot (n1 d1 n2 d2:Int) (w:World) (hn1:Bc n1) (hd1:Bc d1) (hn2:Bc n2) (hd2:Bc d2):Calls Tryz.prog 82 #[.agg (AN n1 d1).toArray,.agg (AN n2 d2).toArray] w fun e w'=>e= .returned (FM (J7 n1 d1 n2 d2))∧A5 w w':=by
 obtain⟨hb1,hb2,hb3,hG3⟩:=Cb w 24 24 24 (AN n1 d1).toArray (AN n2 d2).toArray (AN 0 0).toArray;have HV1:=S9 (fun w'=>DM n1 d1 w' hn1 hd1);have HV2:=S9 (fun w'=>DM n2 d2 w' hn2 hd2);obtain⟨v1,hv1⟩:∃v:Bool,B2 n1 d1=v:=⟨_,rfl⟩;obtain⟨v2,hv2⟩:∃v:Bool,B2 n2 d2=v:=⟨_,rfl⟩;rw[hv1]at HV1;rw[hv2]at HV2;go_enter Tryz.func82,Tryz.ntmps82;go_upto_region 1 with fail;change Code.wp _ _ _ _ (((w.alloc (.cells (AN n1 d1).toArray 24)).alloc (.cells (AN n2 d2).toArray 24)).alloc (.cells (AN 0 0).toArray 24));generalize ((w.alloc (.cells (AN n1 d1).toArray 24)).alloc (.cells (AN n2 d2).toArray 24)).alloc (.cells (AN 0 0).toArray 24)=w3 at*;cases v1
 ·have HB:=S9 (L6 (n2:=n2) (d2:=d2) (.inl hv1));clear hv1 hv2;go_upto_region 2 with(first|(refine BR 24 Tryz.underlying24 rfl (.tmp 2) (w.heap.size) (AN n1 d1) 24 Ad rfl rfl rfl hb1 ?_)|(go_at_call 92;(with_reducible refine(HV1.out _).mono ?_);rintro e w4 ⟨rfl,k4⟩;have hc1:=hb1.grew k4;have hc2:=hb2.grew k4;have hc3:=hb3.grew k4;have hG4:=hG3.trans k4));have he3:=hc3;have hG5:=hG4;go_wp2_with(refine Ar 24 (.tmp 4) (.tmp 14) (w.heap.size+1+1) (AN 0 0) (AN 0 0) 24 Ad rfl (Az _ _) rfl rfl rfl rfl he3 ?_;intro w8 hb8 k8 d8);refine bodyPost_ret (Aj rfl rfl rfl Ad Tryz.underlying24 rfl hb8) rfl ?_;rw[HB.out];exact⟨rfl,Sb hG5 k8 (fun i hi e=>by omega)⟩
 cases v2
 ·have HB:=S9 (L6 (n1:=n1) (d1:=d1) (.inr hv2));clear hv1 hv2;go_upto_region 2 with(first|(refine BR 24 Tryz.underlying24 rfl (.tmp 2) (w.heap.size) (AN n1 d1) 24 Ad rfl rfl rfl hb1 ?_)|(refine Pv rfl 24 Tryz.underlying24 rfl (.tmp 3) (w.heap.size+1) (AN n2 d2) 24 Ad rfl rfl hc2 ?_)|(go_at_call 92;(with_reducible refine(HV1.out _).mono ?_);rintro e w4 ⟨rfl,k4⟩;have hc1:=hb1.grew k4;have hc2:=hb2.grew k4;have hc3:=hb3.grew k4;have hG4:=hG3.trans k4)|(go_at_call 92;(with_reducible refine(HV2.out _).mono ?_);rintro e w5 ⟨rfl,k5⟩;have he1:=hc1.grew k5;have he2:=hc2.grew k5;have he3:=hc3.grew k5;have hG5:=hG4.trans k5));go_wp2_with(refine Ar 24 (.tmp 4) (.tmp 14) (w.heap.size+1+1) (AN 0 0) (AN 0 0) 24 Ad rfl (Az _ _) rfl rfl rfl rfl he3 ?_;intro w8 hb8 k8 d8);refine bodyPost_ret (Aj rfl rfl rfl Ad Tryz.underlying24 rfl hb8) rfl ?_;rw[HB.out];exact⟨rfl,Sb hG5 k8 (fun i hi e=>by omega)⟩
 go_upto_region 3 with(first|(refine BR 24 Tryz.underlying24 rfl (.tmp 2) (w.heap.size) (AN n1 d1) 24 Ad rfl rfl rfl hb1 ?_)|(refine Pv rfl 24 Tryz.underlying24 rfl (.tmp 3) (w.heap.size+1) (AN n2 d2) 24 Ad rfl rfl hc2 ?_)|(go_at_call 92;(with_reducible refine(HV1.out _).mono ?_);rintro e w4 ⟨rfl,k4⟩;have hc1:=hb1.grew k4;have hc2:=hb2.grew k4;have hc3:=hb3.grew k4;have hG4:=hG3.trans k4)|(go_at_call 92;(with_reducible refine(HV2.out _).mono ?_);rintro e w5 ⟨rfl,k5⟩;have he1:=hc1.grew k5;have he2:=hc2.grew k5;have he3:=hc3.grew k5;have hG5:=hG4.trans k5));clear hb1 hb2 hb3 hG3 k4 hc1 hc2 hc3 hG4 k5 HV1 HV2;obtain⟨b1,b2,b3,b4,b5⟩:=BT hv2;have c1:w5.cell? ⟨w.heap.size+1,0,none⟩=some (.int .i64 n2):=he2.cell 0;have c2:w5.cell? ⟨w.heap.size+1,1,none⟩=some (.int .i64 d2):=he2.cell 1;have HA:=fun w'=>Kw n1 d1 (-n2) d2 w' hn1 hd1 ⟨by omega,by omega⟩ hd2
 obtain⟨⟨x,y,er⟩,hp⟩:∃r,EN n1 d1 (-n2) d2=r:=⟨_,rfl⟩;have HB:Hid (J7 n1 d1 n2 d2=(x,y,er)):=S9 ((Q1 hv1 hv2).trans hp);rw[hp]at HA;simp only[FM]at HA;replace HA:=S9 HA;have e1:IntKind.i64.wrap (-n2)= -n2:=IntWalk.i64_in _ (by omega);clear hv1 hv2 b1 b2 b3 b4 b5 hp hn1 hd1 hn2 hd2;go_wp2_with(first|(refine BR 24 Tryz.underlying24 rfl (.tmp 2) (w.heap.size) (AN n1 d1) 24 Ad rfl rfl rfl he1 ?_)|(go_at_call 81;refine(HA.out _).mono ?_;rintro e w6 ⟨rfl,k6⟩;have hd3:=he3.grew k6;have hG6:=hG5.trans k6)|(refine Ar 24 (.tmp 4) (.tmp 23) (w.heap.size+1+1) (AN x y) (AN 0 0) 24 Ad rfl (Az _ _) rfl rfl rfl rfl hd3 ?_;intro w8 hb8 k8 d8));refine bodyPost_ret (Aj rfl rfl rfl Ad Tryz.underlying24 rfl hb8) rfl ?_;rw[HB.out];exact⟨rfl,Sb hG6 k8 (fun i hi e=>by omega)⟩
theorem Of (n1 d1 n2 d2:Int) (w:World) (hn1:Bc n1) (hd1:Bc d1) (hn2:Bc n2) (hd2:Bc d2):Calls Tryz.prog 84 #[.agg (AN n1 d1).toArray,.agg (AN n2 d2).toArray] w fun e w'=>e= .returned (FM (Gq n1 d1 n2 d2))∧A5 w w':=by
 obtain⟨hb1,hb2,hb3,hG3⟩:=Cb w 24 24 24 (AN n1 d1).toArray (AN n2 d2).toArray (AN 0 0).toArray;have HV1:=S9 (fun w'=>DM n1 d1 w' hn1 hd1);have HV2:=S9 (fun w'=>DM n2 d2 w' hn2 hd2);obtain⟨v1,hv1⟩:∃v:Bool,B2 n1 d1=v:=⟨_,rfl⟩;obtain⟨v2,hv2⟩:∃v:Bool,B2 n2 d2=v:=⟨_,rfl⟩;rw[hv1]at HV1;rw[hv2]at HV2;go_enter Tryz.func84,Tryz.ntmps84;go_upto_region 1 with fail;change Code.wp _ _ _ _ (((w.alloc (.cells (AN n1 d1).toArray 24)).alloc (.cells (AN n2 d2).toArray 24)).alloc (.cells (AN 0 0).toArray 24));generalize ((w.alloc (.cells (AN n1 d1).toArray 24)).alloc (.cells (AN n2 d2).toArray 24)).alloc (.cells (AN 0 0).toArray 24)=w3 at*;cases v1
 ·have HB:=S9 (L5 (n2:=n2) (d2:=d2) (.inl hv1));clear hv1 hv2;go_upto_region 2 with(first|(refine BR 24 Tryz.underlying24 rfl (.tmp 2) (w.heap.size) (AN n1 d1) 24 Ad rfl rfl rfl hb1 ?_)|(go_at_call 92;(with_reducible refine(HV1.out _).mono ?_);rintro e w4 ⟨rfl,k4⟩;have hc1:=hb1.grew k4;have hc2:=hb2.grew k4;have hc3:=hb3.grew k4;have hG4:=hG3.trans k4));have he3:=hc3;have hG5:=hG4;go_wp2_with(refine Ar 24 (.tmp 4) (.tmp 14) (w.heap.size+1+1) (AN 0 0) (AN 0 0) 24 Ad rfl (Az _ _) rfl rfl rfl rfl he3 ?_;intro w8 hb8 k8 d8);refine bodyPost_ret (Aj rfl rfl rfl Ad Tryz.underlying24 rfl hb8) rfl ?_;rw[HB.out];exact⟨rfl,Sb hG5 k8 (fun i hi e=>by omega)⟩
 cases v2
 ·have HB:=S9 (L5 (n1:=n1) (d1:=d1) (.inr hv2));clear hv1 hv2;go_upto_region 2 with(first|(refine BR 24 Tryz.underlying24 rfl (.tmp 2) (w.heap.size) (AN n1 d1) 24 Ad rfl rfl rfl hb1 ?_)|(refine Pv rfl 24 Tryz.underlying24 rfl (.tmp 3) (w.heap.size+1) (AN n2 d2) 24 Ad rfl rfl hc2 ?_)|(go_at_call 92;(with_reducible refine(HV1.out _).mono ?_);rintro e w4 ⟨rfl,k4⟩;have hc1:=hb1.grew k4;have hc2:=hb2.grew k4;have hc3:=hb3.grew k4;have hG4:=hG3.trans k4)|(go_at_call 92;(with_reducible refine(HV2.out _).mono ?_);rintro e w5 ⟨rfl,k5⟩;have he1:=hc1.grew k5;have he2:=hc2.grew k5;have he3:=hc3.grew k5;have hG5:=hG4.trans k5));go_wp2_with(refine Ar 24 (.tmp 4) (.tmp 14) (w.heap.size+1+1) (AN 0 0) (AN 0 0) 24 Ad rfl (Az _ _) rfl rfl rfl rfl he3 ?_;intro w8 hb8 k8 d8);refine bodyPost_ret (Aj rfl rfl rfl Ad Tryz.underlying24 rfl hb8) rfl ?_;rw[HB.out];exact⟨rfl,Sb hG5 k8 (fun i hi e=>by omega)⟩
 go_upto_region 3 with(first|(refine BR 24 Tryz.underlying24 rfl (.tmp 2) (w.heap.size) (AN n1 d1) 24 Ad rfl rfl rfl hb1 ?_)|(refine Pv rfl 24 Tryz.underlying24 rfl (.tmp 3) (w.heap.size+1) (AN n2 d2) 24 Ad rfl rfl hc2 ?_)|(go_at_call 92;(with_reducible refine(HV1.out _).mono ?_);rintro e w4 ⟨rfl,k4⟩;have hc1:=hb1.grew k4;have hc2:=hb2.grew k4;have hc3:=hb3.grew k4;have hG4:=hG3.trans k4)|(go_at_call 92;(with_reducible refine(HV2.out _).mono ?_);rintro e w5 ⟨rfl,k5⟩;have he1:=hc1.grew k5;have he2:=hc2.grew k5;have he3:=hc3.grew k5;have hG5:=hG4.trans k5));clear hb1 hb2 hb3 hG3 k4 hc1 hc2 hc3 hG4 k5 HV1 HV2;obtain⟨b1,b2,b3,b4,b5⟩:=BT hv2;have c1:w5.cell? ⟨w.heap.size+1,0,none⟩=some (.int .i64 n2):=he2.cell 0;have c2:w5.cell? ⟨w.heap.size+1,1,none⟩=some (.int .i64 d2):=he2.cell 1;by_cases h0:n2=0
 ·have HB:=S9 (Ng hv1 hv2 h0);have t0:(n2==0)=true:=by simpa using h0
  clear hv1 hv2 h0 b1 b2 b3 b4 b5;go_upto_region 4 with fail;go_wp2_with(refine Ar 24 (.tmp 4) (.tmp 19) (w.heap.size+1+1) (AN 0 0) (AN 0 0) 24 Ad rfl (Az _ _) rfl rfl rfl rfl he3 ?_;intro w8 hb8 k8 d8);refine bodyPost_ret (Aj rfl rfl rfl Ad Tryz.underlying24 rfl hb8) rfl ?_;rw[HB.out];exact⟨rfl,Sb hG5 k8 (fun i hi e=>by omega)⟩
 have t0:(n2==0)=false:=by simpa using h0
 by_cases h1:n2<0
 ·have t1:decide (n2<0)=true:=by simpa using h1
  have hb0:=PU hv1 hv2 h0 h1;have HM:=fun w'=>IK n1 d1 (-d2) (-n2) w' hn1 hd1 ⟨by omega,by omega⟩ ⟨by omega,by omega⟩
  have e1:IntKind.i64.wrap (-n2)= -n2:=IntWalk.i64_in _ (by omega);have e2:IntKind.i64.wrap (-d2)= -d2:=IntWalk.i64_in _ (by omega);obtain⟨⟨x,y,er⟩,hp⟩:∃r,Dy n1 d1 (-d2) (-n2)=r:=⟨_,rfl⟩;rw[hp]at hb0 HM;have HB:=S9 hb0;simp only[FM]at HM;replace HM:=S9 HM;clear hv1 hv2 b1 b2 b3 b4 b5 hp h0 h1 hb0 hn1 hd1 hn2 hd2;go_upto_region 6 with fail;go_wp2_with(first|(refine BR 24 Tryz.underlying24 rfl (.tmp 2) (w.heap.size) (AN n1 d1) 24 Ad rfl rfl rfl he1 ?_)|(go_at_call 83;refine(HM.out _).mono ?_;rintro e w6 ⟨rfl,k6⟩;have hd3:=he3.grew k6;have hG6:=hG5.trans k6)|(refine Ar 24 (.tmp 4) (.tmp 33) (w.heap.size+1+1) (AN x y) (AN 0 0) 24 Ad rfl (Az _ _) rfl rfl rfl rfl hd3 ?_;intro w8 hb8 k8 d8));refine bodyPost_ret (Aj rfl rfl rfl Ad Tryz.underlying24 rfl hb8) rfl ?_;rw[HB.out];exact⟨rfl,Sb hG6 k8 (fun i hi e=>by omega)⟩
 have t1:decide (n2<0)=false:=by simpa using h1
 have hb0:=OJ hv1 hv2 h0 h1;have HM:=fun w'=>IK n1 d1 d2 n2 w' hn1 hd1 hd2 hn2
 obtain⟨⟨x,y,er⟩,hp⟩:∃r,Dy n1 d1 d2 n2=r:=⟨_,rfl⟩;rw[hp]at hb0 HM;have HB:=S9 hb0;simp only[FM]at HM;replace HM:=S9 HM;clear hv1 hv2 b1 b2 b3 b4 b5 hp h0 h1 hb0 hn1 hd1 hn2 hd2;go_upto_region 7 with fail;go_wp2_with(first|(refine BR 24 Tryz.underlying24 rfl (.tmp 2) (w.heap.size) (AN n1 d1) 24 Ad rfl rfl rfl he1 ?_)|(go_at_call 83;refine(HM.out _).mono ?_;rintro e w6 ⟨rfl,k6⟩;have hd3:=he3.grew k6;have hG6:=hG5.trans k6)|(refine Ar 24 (.tmp 4) (.tmp 42) (w.heap.size+1+1) (AN x y) (AN 0 0) 24 Ad rfl (Az _ _) rfl rfl rfl rfl hd3 ?_;intro w8 hb8 k8 d8));refine bodyPost_ret (Aj rfl rfl rfl Ad Tryz.underlying24 rfl hb8) rfl ?_;rw[HB.out];exact⟨rfl,Sb hG6 k8 (fun i hi e=>by omega)⟩
theorem Qf:(Tryz.prog.info? 132).map (·.size)=some 4:=by kernel_rfl
theorem JO (fn:Int) (ea eb:Ex) (v1 v2 v3 v4 v5 v6:Value) (w:World) (ha:ea.kind=0) (hb:eb.kind=0) (hfn:0≤fn∧fn≤3) (hn1:Bc ea.num) (hd1:Bc ea.den) (hn2:Bc eb.num) (hd2:Bc eb.den) (x y er:Int) (hap:CD fn ea.num ea.den eb.num eb.den=(x,y,er)):
  Calls Tryz.prog 56 #[.int .i64 fn,.agg (AE ea v1 v2 v3).toArray,.agg (AE eb v4 v5 v6).toArray] w fun e' w'=>e'= .returned (.tuple #[.agg (AH x y).toArray,.bool (er==0)])∧A5 w w':=by
 obtain⟨hb1,hb2,hb3,hG⟩:=Cb w 29 29 29 (AE ea v1 v2 v3).toArray (AE eb v4 v5 v6).toArray (AH 0 0).toArray;go_enter Tryz.func56,Tryz.ntmps56;go_upto_region 1 with fail;change Code.wp _ _ _ _ (((w.alloc (.cells (AE ea v1 v2 v3).toArray 29)).alloc (.cells (AE eb v4 v5 v6).toArray 29)).alloc (.cells (AH 0 0).toArray 29));generalize ((w.alloc (.cells (AE ea v1 v2 v3).toArray 29)).alloc (.cells (AE eb v4 v5 v6).toArray 29)).alloc (.cells (AH 0 0).toArray 29)=w1 at*;have c0:w1.cell? ⟨w.heap.size,0,none⟩=some (.int .i64 0):=by have:w1.cell? ⟨w.heap.size,0,none⟩=some (.int .i64 ea.kind):=hb1.cell 0;rw[ha]at this;exact this
 have d0:w1.cell? ⟨w.heap.size+1,0,none⟩=some (.int .i64 0):=by have:w1.cell? ⟨w.heap.size+1,0,none⟩=some (.int .i64 eb.kind):=hb2.cell 0;rw[hb]at this;exact this
 have HB1:=S9 (SC hb1 (SC hb2 (SC hb3 hG)));clear hb1 hb2 hb3 hG ha hb;go_upto_region 4 with(first|((with_reducible refine AF 132 (.tmp 8) (.tmp 20) rfl ?_);refine Ar 132 (.tmp 8) (.tmp 20) (w1.heap.size) [.func (.func 81) #[] #[],.func (.func 82) #[] #[],.func (.func 83) #[] #[],.func (.func 84) #[] #[]] [.nilFunc,.nilFunc,.nilFunc,.nilFunc] 132 Qf rfl (by intro v hv;simp at hv;rcases hv with rfl|rfl|rfl|rfl<;>rfl) rfl rfl rfl rfl (Sc w1 132 _) ?_;intro w3 hb8 k8 d8;have g3:A5 w1 w3:=Sb ((Sa w1).alloc _) k8 (fun i hi e=>by omega)));have HB:=S9 (show(∀w',A5 w3 w'→w'.rangeAt w.heap.size 5 (AN ea.num ea.den))∧(∀w',A5 w3 w'→w'.rangeAt (w.heap.size+1) 5 (AN eb.num eb.den))∧Ag w3 (w.heap.size+1+1) 29 (AH 0 0).toArray∧A5 w w3 from⟨fun w' g=>(HB1.out.1.grew (g3.trans g)).rangeN 5 (AN ea.num ea.den) rfl,fun w' g=>(HB1.out.2.1.grew (g3.trans g)).rangeN 5 (AN eb.num eb.den) rfl,HB1.out.2.2.1.grew g3,HB1.out.2.2.2.trans g3⟩);clear c0 d0 HB1 k8 g3;generalize w1.heap.size=z8 at*;generalize ea.num=n1 at*;generalize ea.den=d1 at*;generalize eb.num=n2 at*;generalize eb.den=d2 at*;obtain rfl|rfl|rfl|rfl:fn=0∨fn=1∨fn=2∨fn=3:=by omega
 ·have HAP:=S9 (fun w'=>Kw n1 d1 n2 d2 w' hn1 hd1 hn2 hd2);rw[show EN n1 d1 n2 d2=(x,y,er)from hap]at HAP;simp only[FM]at HAP;have a0:w3.cell? ⟨z8,0,none⟩=some (.func (.func 81) #[] #[]):=hb8.cell 0;have HRW:=S9 (show ∀w',A5 w3.drew w'→w'.cell? ⟨z8,0,none⟩=some (.func (.func 81) #[] #[])∧w'.rangeAt w.heap.size 5 (AN n1 d1)∧w'.rangeAt (w.heap.size+1) 5 (AN n2 d2)from fun w' g=>⟨((hb8.drewN 1).grew g).cell 0,(HB.out.1 _ ((Sd (Sa w3)).trans g)),(HB.out.2.1 _ ((Sd (Sa w3)).trans g))⟩);clear hap hn1 hd1 hn2 hd2 hb8 a0;refine Co (by kernel_rfl) 12 11 9 [10,13] [.int .i64 0,.pointer (some ⟨z8,0,none⟩),.func (.func 81) #[] #[],.pointer (some ⟨w.heap.size,5,none⟩),.agg (AN n1 d1).toArray,.pointer (some ⟨w.heap.size+1,5,none⟩),.agg (AN n2 d2).toArray,.tuple #[.agg (AN x y).toArray,.int .i64 er],.tuple #[.agg (AN x y).toArray,.int .i64 er],.agg (AN x y).toArray,.int .i64 er,undef,undef,.int .i64 er] 24 (AN 0 0) _ (by kernel_rfl) (by kernel_rfl) (by decide) (by decide) (by decide) (SL (by kernel_rfl)) rfl (SL (by kernel_rfl)) (by kernel_rfl) ?hH ?hal (AN x y) (.tmp 9) (.tmp 30) 24 _ rfl rfl rfl (by simp[Op.operands]) (by simp[Op.operands]) Ad rfl (Az _ _) (fun z=>by kernel_rfl) (fun z=>by kernel_rfl) ?hT
  case hH=>
   simp only[List.toList_toArray,List.take_succ_cons,List.take_zero,AI,Act.put,List.setIfInBounds_toArray,List.set_cons_zero,List.set_cons_succ];refine AS (by decide) (fun z w' hg=>?_) ?_
   ·go_simp;exact Sa _
   refine AS (by decide) (fun z w' hg=>?_) ?_
   ·go_simp;exact Sa _
   refine AS (by decide) (fun z w' hg=>?_) ?_
   ·obtain⟨g1,g2,g3⟩:=HRW.out _ hg;go_simp;exact Sa _
   refine AS (by decide) (fun z w' hg=>?_) ?_
   ·go_simp;exact Sa _
   refine AS (by decide) (fun z w' hg=>?_) ?_
   ·obtain⟨g1,g2,g3⟩:=HRW.out _ hg;refine wp_load_mid 24 (.tmp 25) rfl (w.heap.size) 5 rfl (AN n1 d1) _ g2 Tryz.underlying24 rfl Ad ?_;exact⟨rfl,Sa _⟩
   refine AS (by decide) (fun z w' hg=>?_) ?_
   ·go_simp;exact Sa _
   refine AS (by decide) (fun z w' hg=>?_) ?_
   ·obtain⟨g1,g2,g3⟩:=HRW.out _ hg;refine wp_load_mid 24 (.tmp 27) rfl (w.heap.size+1) 5 rfl (AN n2 d2) _ g3 Tryz.underlying24 rfl Ad ?_;exact⟨rfl,Sa _⟩
   refine AS (by decide) (fun z w' hg=>?_) ?_
   ·go_simp;(with_reducible refine(HAP.out _).mono ?_);rintro e wq ⟨rfl,kq⟩;exact⟨rfl,kq⟩
   refine AS (by decide) (fun z w' hg=>?_) ?_
   ·go_simp;exact Sa _
   refine AS (by decide) (fun z w' hg=>?_) ?_
   ·go_simp;exact Sa _
   refine C2 (by decide) (fun z w'=>?_) ?_
   ·go_simp
   refine DO (by decide) ?_;refine DN (by decide) ?_;refine C2 (by decide) (fun z w'=>?_) ?_
   ·go_simp
   exact EZ
  case hal=>
   intro o1 ho a1 w4 K hK;obtain rfl:=SI ho;go_simp;exact hK _ rfl
  case hT=>
   intro z wz hz hbz hgz;dsimp only;simp only[List.toList_toArray,List.take_succ_cons,List.take_zero,AI,Act.put,List.setIfInBounds_toArray,List.set_cons_zero,List.set_cons_succ];have m2:=HB.out.2.2.1.grew hgz;have hGz:=HB.out.2.2.2.trans hgz;obtain⟨eb2,heb⟩:∃q:Bool,(er==0)=q:=⟨_,rfl⟩;clear HRW HB hgz hz;go_wp2_with(first|((with_reducible refine AG 24 (.tmp 9) rfl ?_);refine BR 24 Tryz.underlying24 rfl (.tmp 9) z [.int .i64 x,.int .i64 y] 24 Ad rfl rfl rfl hbz ?_)|((with_reducible refine AF 29 (.tmp 6) (.tmp 33) rfl ?_);refine Ar 29 (.tmp 6) (.tmp 33) (w.heap.size+1+1) (AH x y) (AH 0 0) 29 AD rfl (AX _ _) rfl rfl rfl rfl m2 ?_;intro w8 hb8 k8 d8));refine bodyPost_ret (AR rfl rfl rfl AD Tryz.underlying29 rfl hb8) rfl ?_;exact⟨by rw[heb];rfl,Sb hGz k8 (fun i hi e=>by omega)⟩
 ·have HAP:=S9 (fun w'=>Ot n1 d1 n2 d2 w' hn1 hd1 hn2 hd2);rw[show J7 n1 d1 n2 d2=(x,y,er)from hap]at HAP;simp only[FM]at HAP;have a0:w3.cell? ⟨z8,1,none⟩=some (.func (.func 82) #[] #[]):=hb8.cell 1;have HRW:=S9 (show ∀w',A5 w3.drew w'→w'.cell? ⟨z8,1,none⟩=some (.func (.func 82) #[] #[])∧w'.rangeAt w.heap.size 5 (AN n1 d1)∧w'.rangeAt (w.heap.size+1) 5 (AN n2 d2)from fun w' g=>⟨((hb8.drewN 1).grew g).cell 1,(HB.out.1 _ ((Sd (Sa w3)).trans g)),(HB.out.2.1 _ ((Sd (Sa w3)).trans g))⟩);clear hap hn1 hd1 hn2 hd2 hb8 a0;refine Co (by kernel_rfl) 12 11 9 [10,13] [.int .i64 1,.pointer (some ⟨z8,1,none⟩),.func (.func 82) #[] #[],.pointer (some ⟨w.heap.size,5,none⟩),.agg (AN n1 d1).toArray,.pointer (some ⟨w.heap.size+1,5,none⟩),.agg (AN n2 d2).toArray,.tuple #[.agg (AN x y).toArray,.int .i64 er],.tuple #[.agg (AN x y).toArray,.int .i64 er],.agg (AN x y).toArray,.int .i64 er,undef,undef,.int .i64 er] 24 (AN 0 0) _ (by kernel_rfl) (by kernel_rfl) (by decide) (by decide) (by decide) (SL (by kernel_rfl)) rfl (SL (by kernel_rfl)) (by kernel_rfl) ?hH ?hal (AN x y) (.tmp 9) (.tmp 30) 24 _ rfl rfl rfl (by simp[Op.operands]) (by simp[Op.operands]) Ad rfl (Az _ _) (fun z=>by kernel_rfl) (fun z=>by kernel_rfl) ?hT
  case hH=>
   simp only[List.toList_toArray,List.take_succ_cons,List.take_zero,AI,Act.put,List.setIfInBounds_toArray,List.set_cons_zero,List.set_cons_succ];refine AS (by decide) (fun z w' hg=>?_) ?_
   ·go_simp;exact Sa _
   refine AS (by decide) (fun z w' hg=>?_) ?_
   ·go_simp;exact Sa _
   refine AS (by decide) (fun z w' hg=>?_) ?_
   ·obtain⟨g1,g2,g3⟩:=HRW.out _ hg;go_simp;exact Sa _
   refine AS (by decide) (fun z w' hg=>?_) ?_
   ·go_simp;exact Sa _
   refine AS (by decide) (fun z w' hg=>?_) ?_
   ·obtain⟨g1,g2,g3⟩:=HRW.out _ hg;refine wp_load_mid 24 (.tmp 25) rfl (w.heap.size) 5 rfl (AN n1 d1) _ g2 Tryz.underlying24 rfl Ad ?_;exact⟨rfl,Sa _⟩
   refine AS (by decide) (fun z w' hg=>?_) ?_
   ·go_simp;exact Sa _
   refine AS (by decide) (fun z w' hg=>?_) ?_
   ·obtain⟨g1,g2,g3⟩:=HRW.out _ hg;refine wp_load_mid 24 (.tmp 27) rfl (w.heap.size+1) 5 rfl (AN n2 d2) _ g3 Tryz.underlying24 rfl Ad ?_;exact⟨rfl,Sa _⟩
   refine AS (by decide) (fun z w' hg=>?_) ?_
   ·go_simp;(with_reducible refine(HAP.out _).mono ?_);rintro e wq ⟨rfl,kq⟩;exact⟨rfl,kq⟩
   refine AS (by decide) (fun z w' hg=>?_) ?_
   ·go_simp;exact Sa _
   refine AS (by decide) (fun z w' hg=>?_) ?_
   ·go_simp;exact Sa _
   refine C2 (by decide) (fun z w'=>?_) ?_
   ·go_simp
   refine DO (by decide) ?_;refine DN (by decide) ?_;refine C2 (by decide) (fun z w'=>?_) ?_
   ·go_simp
   exact EZ
  case hal=>
   intro o1 ho a1 w4 K hK;obtain rfl:=SI ho;go_simp;exact hK _ rfl
  case hT=>
   intro z wz hz hbz hgz;dsimp only;simp only[List.toList_toArray,List.take_succ_cons,List.take_zero,AI,Act.put,List.setIfInBounds_toArray,List.set_cons_zero,List.set_cons_succ];have m2:=HB.out.2.2.1.grew hgz;have hGz:=HB.out.2.2.2.trans hgz;obtain⟨eb2,heb⟩:∃q:Bool,(er==0)=q:=⟨_,rfl⟩;clear HRW HB hgz hz;go_wp2_with(first|((with_reducible refine AG 24 (.tmp 9) rfl ?_);refine BR 24 Tryz.underlying24 rfl (.tmp 9) z [.int .i64 x,.int .i64 y] 24 Ad rfl rfl rfl hbz ?_)|((with_reducible refine AF 29 (.tmp 6) (.tmp 33) rfl ?_);refine Ar 29 (.tmp 6) (.tmp 33) (w.heap.size+1+1) (AH x y) (AH 0 0) 29 AD rfl (AX _ _) rfl rfl rfl rfl m2 ?_;intro w8 hb8 k8 d8));refine bodyPost_ret (AR rfl rfl rfl AD Tryz.underlying29 rfl hb8) rfl ?_;exact⟨by rw[heb];rfl,Sb hGz k8 (fun i hi e=>by omega)⟩
 ·have HAP:=S9 (fun w'=>IK n1 d1 n2 d2 w' hn1 hd1 hn2 hd2);rw[show Dy n1 d1 n2 d2=(x,y,er)from hap]at HAP;simp only[FM]at HAP;have a0:w3.cell? ⟨z8,2,none⟩=some (.func (.func 83) #[] #[]):=hb8.cell 2;have HRW:=S9 (show ∀w',A5 w3.drew w'→w'.cell? ⟨z8,2,none⟩=some (.func (.func 83) #[] #[])∧w'.rangeAt w.heap.size 5 (AN n1 d1)∧w'.rangeAt (w.heap.size+1) 5 (AN n2 d2)from fun w' g=>⟨((hb8.drewN 1).grew g).cell 2,(HB.out.1 _ ((Sd (Sa w3)).trans g)),(HB.out.2.1 _ ((Sd (Sa w3)).trans g))⟩);clear hap hn1 hd1 hn2 hd2 hb8 a0;refine Co (by kernel_rfl) 12 11 9 [10,13] [.int .i64 2,.pointer (some ⟨z8,2,none⟩),.func (.func 83) #[] #[],.pointer (some ⟨w.heap.size,5,none⟩),.agg (AN n1 d1).toArray,.pointer (some ⟨w.heap.size+1,5,none⟩),.agg (AN n2 d2).toArray,.tuple #[.agg (AN x y).toArray,.int .i64 er],.tuple #[.agg (AN x y).toArray,.int .i64 er],.agg (AN x y).toArray,.int .i64 er,undef,undef,.int .i64 er] 24 (AN 0 0) _ (by kernel_rfl) (by kernel_rfl) (by decide) (by decide) (by decide) (SL (by kernel_rfl)) rfl (SL (by kernel_rfl)) (by kernel_rfl) ?hH ?hal (AN x y) (.tmp 9) (.tmp 30) 24 _ rfl rfl rfl (by simp[Op.operands]) (by simp[Op.operands]) Ad rfl (Az _ _) (fun z=>by kernel_rfl) (fun z=>by kernel_rfl) ?hT
  case hH=>
   simp only[List.toList_toArray,List.take_succ_cons,List.take_zero,AI,Act.put,List.setIfInBounds_toArray,List.set_cons_zero,List.set_cons_succ];refine AS (by decide) (fun z w' hg=>?_) ?_
   ·go_simp;exact Sa _
   refine AS (by decide) (fun z w' hg=>?_) ?_
   ·go_simp;exact Sa _
   refine AS (by decide) (fun z w' hg=>?_) ?_
   ·obtain⟨g1,g2,g3⟩:=HRW.out _ hg;go_simp;exact Sa _
   refine AS (by decide) (fun z w' hg=>?_) ?_
   ·go_simp;exact Sa _
   refine AS (by decide) (fun z w' hg=>?_) ?_
   ·obtain⟨g1,g2,g3⟩:=HRW.out _ hg;refine wp_load_mid 24 (.tmp 25) rfl (w.heap.size) 5 rfl (AN n1 d1) _ g2 Tryz.underlying24 rfl Ad ?_;exact⟨rfl,Sa _⟩
   refine AS (by decide) (fun z w' hg=>?_) ?_
   ·go_simp;exact Sa _
   refine AS (by decide) (fun z w' hg=>?_) ?_
   ·obtain⟨g1,g2,g3⟩:=HRW.out _ hg;refine wp_load_mid 24 (.tmp 27) rfl (w.heap.size+1) 5 rfl (AN n2 d2) _ g3 Tryz.underlying24 rfl Ad ?_;exact⟨rfl,Sa _⟩
   refine AS (by decide) (fun z w' hg=>?_) ?_
   ·go_simp;(with_reducible refine(HAP.out _).mono ?_);rintro e wq ⟨rfl,kq⟩;exact⟨rfl,kq⟩
   refine AS (by decide) (fun z w' hg=>?_) ?_
   ·go_simp;exact Sa _
   refine AS (by decide) (fun z w' hg=>?_) ?_
   ·go_simp;exact Sa _
   refine C2 (by decide) (fun z w'=>?_) ?_
   ·go_simp
   refine DO (by decide) ?_;refine DN (by decide) ?_;refine C2 (by decide) (fun z w'=>?_) ?_
   ·go_simp
   exact EZ
  case hal=>
   intro o1 ho a1 w4 K hK;obtain rfl:=SI ho;go_simp;exact hK _ rfl
  case hT=>
   intro z wz hz hbz hgz;dsimp only;simp only[List.toList_toArray,List.take_succ_cons,List.take_zero,AI,Act.put,List.setIfInBounds_toArray,List.set_cons_zero,List.set_cons_succ];have m2:=HB.out.2.2.1.grew hgz;have hGz:=HB.out.2.2.2.trans hgz;obtain⟨eb2,heb⟩:∃q:Bool,(er==0)=q:=⟨_,rfl⟩;clear HRW HB hgz hz;go_wp2_with(first|((with_reducible refine AG 24 (.tmp 9) rfl ?_);refine BR 24 Tryz.underlying24 rfl (.tmp 9) z [.int .i64 x,.int .i64 y] 24 Ad rfl rfl rfl hbz ?_)|((with_reducible refine AF 29 (.tmp 6) (.tmp 33) rfl ?_);refine Ar 29 (.tmp 6) (.tmp 33) (w.heap.size+1+1) (AH x y) (AH 0 0) 29 AD rfl (AX _ _) rfl rfl rfl rfl m2 ?_;intro w8 hb8 k8 d8));refine bodyPost_ret (AR rfl rfl rfl AD Tryz.underlying29 rfl hb8) rfl ?_;exact⟨by rw[heb];rfl,Sb hGz k8 (fun i hi e=>by omega)⟩
 have HAP:=S9 (fun w'=>Of n1 d1 n2 d2 w' hn1 hd1 hn2 hd2);rw[show Gq n1 d1 n2 d2=(x,y,er)from hap]at HAP;simp only[FM]at HAP;have a0:w3.cell? ⟨z8,3,none⟩=some (.func (.func 84) #[] #[]):=hb8.cell 3;have HRW:=S9 (show ∀w',A5 w3.drew w'→w'.cell? ⟨z8,3,none⟩=some (.func (.func 84) #[] #[])∧w'.rangeAt w.heap.size 5 (AN n1 d1)∧w'.rangeAt (w.heap.size+1) 5 (AN n2 d2)from fun w' g=>⟨((hb8.drewN 1).grew g).cell 3,(HB.out.1 _ ((Sd (Sa w3)).trans g)),(HB.out.2.1 _ ((Sd (Sa w3)).trans g))⟩);clear hap hn1 hd1 hn2 hd2 hb8 a0;refine Co (by kernel_rfl) 12 11 9 [10,13] [.int .i64 3,.pointer (some ⟨z8,3,none⟩),.func (.func 84) #[] #[],.pointer (some ⟨w.heap.size,5,none⟩),.agg (AN n1 d1).toArray,.pointer (some ⟨w.heap.size+1,5,none⟩),.agg (AN n2 d2).toArray,.tuple #[.agg (AN x y).toArray,.int .i64 er],.tuple #[.agg (AN x y).toArray,.int .i64 er],.agg (AN x y).toArray,.int .i64 er,undef,undef,.int .i64 er] 24 (AN 0 0) _ (by kernel_rfl) (by kernel_rfl) (by decide) (by decide) (by decide) (SL (by kernel_rfl)) rfl (SL (by kernel_rfl)) (by kernel_rfl) ?hH ?hal (AN x y) (.tmp 9) (.tmp 30) 24 _ rfl rfl rfl (by simp[Op.operands]) (by simp[Op.operands]) Ad rfl (Az _ _) (fun z=>by kernel_rfl) (fun z=>by kernel_rfl) ?hT
 case hH=>
  simp only[List.toList_toArray,List.take_succ_cons,List.take_zero,AI,Act.put,List.setIfInBounds_toArray,List.set_cons_zero,List.set_cons_succ];refine AS (by decide) (fun z w' hg=>?_) ?_
  ·go_simp;exact Sa _
  refine AS (by decide) (fun z w' hg=>?_) ?_
  ·go_simp;exact Sa _
  refine AS (by decide) (fun z w' hg=>?_) ?_
  ·obtain⟨g1,g2,g3⟩:=HRW.out _ hg;go_simp;exact Sa _
  refine AS (by decide) (fun z w' hg=>?_) ?_
  ·go_simp;exact Sa _
  refine AS (by decide) (fun z w' hg=>?_) ?_
  ·obtain⟨g1,g2,g3⟩:=HRW.out _ hg;refine wp_load_mid 24 (.tmp 25) rfl (w.heap.size) 5 rfl (AN n1 d1) _ g2 Tryz.underlying24 rfl Ad ?_;exact⟨rfl,Sa _⟩
  refine AS (by decide) (fun z w' hg=>?_) ?_
  ·go_simp;exact Sa _
  refine AS (by decide) (fun z w' hg=>?_) ?_
  ·obtain⟨g1,g2,g3⟩:=HRW.out _ hg;refine wp_load_mid 24 (.tmp 27) rfl (w.heap.size+1) 5 rfl (AN n2 d2) _ g3 Tryz.underlying24 rfl Ad ?_;exact⟨rfl,Sa _⟩
  refine AS (by decide) (fun z w' hg=>?_) ?_
  ·go_simp;(with_reducible refine(HAP.out _).mono ?_);rintro e wq ⟨rfl,kq⟩;exact⟨rfl,kq⟩
  refine AS (by decide) (fun z w' hg=>?_) ?_
  ·go_simp;exact Sa _
  refine AS (by decide) (fun z w' hg=>?_) ?_
  ·go_simp;exact Sa _
  refine C2 (by decide) (fun z w'=>?_) ?_
  ·go_simp
  refine DO (by decide) ?_;refine DN (by decide) ?_;refine C2 (by decide) (fun z w'=>?_) ?_
  ·go_simp
  exact EZ
 case hal=>
  intro o1 ho a1 w4 K hK;obtain rfl:=SI ho;go_simp;exact hK _ rfl
 case hT=>
  intro z wz hz hbz hgz;dsimp only;simp only[List.toList_toArray,List.take_succ_cons,List.take_zero,AI,Act.put,List.setIfInBounds_toArray,List.set_cons_zero,List.set_cons_succ];have m2:=HB.out.2.2.1.grew hgz;have hGz:=HB.out.2.2.2.trans hgz;obtain⟨eb2,heb⟩:∃q:Bool,(er==0)=q:=⟨_,rfl⟩;clear HRW HB hgz hz;go_wp2_with(first|((with_reducible refine AG 24 (.tmp 9) rfl ?_);refine BR 24 Tryz.underlying24 rfl (.tmp 9) z [.int .i64 x,.int .i64 y] 24 Ad rfl rfl rfl hbz ?_)|((with_reducible refine AF 29 (.tmp 6) (.tmp 33) rfl ?_);refine Ar 29 (.tmp 6) (.tmp 33) (w.heap.size+1+1) (AH x y) (AH 0 0) 29 AD rfl (AX _ _) rfl rfl rfl rfl m2 ?_;intro w8 hb8 k8 d8));refine bodyPost_ret (AR rfl rfl rfl AD Tryz.underlying29 rfl hb8) rfl ?_;exact⟨by rw[heb];rfl,Sb hGz k8 (fun i hi e=>by omega)⟩
theorem Je (fn:Int) (ea eb:Ex) (v1 v2 v3 v4 v5 v6:Value) (w:World) (hab:¬(ea.kind=0∧eb.kind=0)):
  Calls Tryz.prog 56 #[.int .i64 fn,.agg (AE ea v1 v2 v3).toArray,.agg (AE eb v4 v5 v6).toArray] w fun e' w'=>e'= .returned (.tuple #[.agg (AH 0 0).toArray,.bool false])∧A5 w w':=by
 obtain⟨hb1,hb2,hb3,hG⟩:=Cb w 29 29 29 (AE ea v1 v2 v3).toArray (AE eb v4 v5 v6).toArray (AH 0 0).toArray;go_enter Tryz.func56,Tryz.ntmps56;go_upto_region 1 with fail;change Code.wp _ _ _ _ (((w.alloc (.cells (AE ea v1 v2 v3).toArray 29)).alloc (.cells (AE eb v4 v5 v6).toArray 29)).alloc (.cells (AH 0 0).toArray 29));generalize ((w.alloc (.cells (AE ea v1 v2 v3).toArray 29)).alloc (.cells (AE eb v4 v5 v6).toArray 29)).alloc (.cells (AH 0 0).toArray 29)=w1 at*;have c0:w1.cell? ⟨w.heap.size,0,none⟩=some (.int .i64 ea.kind):=hb1.cell 0;have d0:w1.cell? ⟨w.heap.size+1,0,none⟩=some (.int .i64 eb.kind):=hb2.cell 0;have HG:=S9 hG;clear hG hb1 hb2;by_cases ha:ea.kind=0
 ·have hb:¬eb.kind=0:=fun h=>hab ⟨ha,h⟩
  have t1:(ea.kind==0)=true:=by rw[SG];exact ha
  have t1':(ea.kind !=0)=false:=by rw[bne,t1];rfl
  have t2:(eb.kind==0)=false:=by rw[SA];exact hb
  have t2':(eb.kind !=0)=true:=by rw[bne,t2];rfl
  clear ha hb hab;go_wp2_with(first|((with_reducible refine AF 29 (.tmp 6) (.tmp 19) rfl ?_);refine Ar 29 (.tmp 6) (.tmp 19) (w.heap.size+1+1) (AH 0 0) (AH 0 0) 29 AD rfl (AX _ _) rfl rfl rfl rfl hb3 ?_;intro w8 hb8 k8 d8));refine bodyPost_ret (AR rfl rfl rfl AD Tryz.underlying29 rfl hb8) rfl ?_;exact⟨rfl,Sb HG.out k8 (fun i hi e=>by omega)⟩
 have t1:(ea.kind==0)=false:=by rw[SA];exact ha
 have t1':(ea.kind !=0)=true:=by rw[bne,t1];rfl
 clear ha hab;go_wp2_with(first|((with_reducible refine AF 29 (.tmp 6) (.tmp 19) rfl ?_);refine Ar 29 (.tmp 6) (.tmp 19) (w.heap.size+1+1) (AH 0 0) (AH 0 0) 29 AD rfl (AX _ _) rfl rfl rfl rfl hb3 ?_;intro w8 hb8 k8 d8));refine bodyPost_ret (AR rfl rfl rfl AD Tryz.underlying29 rfl hb8) rfl ?_;exact⟨rfl,Sb HG.out k8 (fun i hi e=>by omega)⟩
theorem AW.two_le {w:World} {B M M':Nat} {e:Ex} {cs:List Value} (h:AW w (CW B M w.heap.size) e cs) (hM:M'≤M):AW w (CW B M' w.heap.size) e cs:=
 AW.keep (S:=fun _=>False) (fun b hb=>⟨hb.2,fun h=>h,by rcases hb.1 with h1|h1;exact .inl h1;exact .inr (by omega),hb.2⟩) (Sa w) e cs h
theorem Lq:(Tryz.prog.info? 105).map (·.size)=some 1:=by kernel_rfl
theorem Ok:(Tryz.prog.info? 106).map (·.size)=some 6:=by kernel_rfl
end Go.Proofs.YthpflelgbadkcaaGreatDoor
