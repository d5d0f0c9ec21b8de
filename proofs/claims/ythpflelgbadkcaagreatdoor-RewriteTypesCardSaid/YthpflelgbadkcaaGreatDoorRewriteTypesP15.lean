/- What the card of the law stands on: Rem64, FAdd, FDiv. -/
import Derived.Test.YthpflelgbadkcaaGreatDoorRewriteTypesP01
import Derived.Test.YthpflelgbadkcaaGreatDoorRewriteTypesP14
import Derived.Test.YthpflelgbadkcaaGreatDoorRewriteTypesP12
set_option maxRecDepth 100000
set_option maxHeartbeats 12800000
set_option linter.unusedVariables false
set_option linter.unusedSimpArgs false
namespace Go.Proofs.YthpflelgbadkcaaGreatDoor
open Go.RowKit Pl
theorem SO (hi lo y:Nat):(hi%y*18446744073709551616+lo)%y=(hi*18446744073709551616+lo)%y:=by
 rw[Nat.add_mod,Nat.mul_mod,Nat.mod_mod,←Nat.mul_mod,←Nat.add_mod]
theorem P5 (hi lo y:Nat) (w:World) (hh:hi<18446744073709551616) (hy0:0<y) (hy2:y<18446744073709551616) (hl:lo<18446744073709551616):Calls Tryz.prog 115 #[.int .u64 (hi:Int),.int .u64 (lo:Int),.int .u64 (y:Int)] w fun e w'=>e= .returned (.int .u64 (((hi*18446744073709551616+lo)%y:Nat):Int))∧A4 w w':=by
 have q0:¬(y:Int)=0:=by omega
 have q1:¬y=0:=by omega
 have e1:(hi:Int).tmod (y:Int)=((hi%y:Nat):Int):=by rw[Int.tmod_eq_emod_of_nonneg (by omega)];rfl
 have hm:=Nat.mod_lt hi hy0;have HR:=SO hi lo y;obtain⟨h,hh2⟩:∃h,hi%y=h:=⟨_,rfl⟩;rw[hh2]at e1 hm HR;have HD:=fun w'=>KO h lo y w' hm hy2 hl
 unfold E3 at HD;rw[HR]at HD;obtain⟨qq,hqq⟩:∃q,(h*18446744073709551616+lo)/y=q:=⟨_,rfl⟩;obtain⟨rr,hrr⟩:∃q,(hi*18446744073709551616+lo)%y=q:=⟨_,rfl⟩;rw[hrr];rw[hqq,hrr]at HD;have HD:=V3 HD;clear hm HR hqq hrr hh2;go_enter Tryz.func115,Tryz.ntmps115;go_wp2_with(go_at_call 117;(with_reducible refine(HD.out _).mono ?_);rintro e w4 ⟨rfl,k4⟩);go_ret;exact⟨rfl,k4⟩
theorem OZ (hi lo h:Nat) (h0:0<h):(hi*18446744073709551616+lo)/h=hi/h*18446744073709551616+(hi%h*18446744073709551616+lo)/h:=by
 have e:hi*18446744073709551616+lo=(hi%h*18446744073709551616+lo)+h*(hi/h*18446744073709551616):=by
  have h1:=Nat.mod_add_div hi h;have h2:h*(hi/h*18446744073709551616)=(h*(hi/h))*18446744073709551616:=by rw[VT]
  rw[h2];generalize h*(hi/h)=z at*;omega
 rw[e,Nat.add_mul_div_left _ _ h0,Nat.add_comm]
theorem Om (z:Int) (h:Nat):z.tdiv (h:Int)=if decide (z<0)=true then -((z.natAbs/h:Nat):Int)else((z.natAbs/h:Nat):Int):=by
 have e:z=if decide (z<0)=true then -((z.natAbs:Nat):Int)else((z.natAbs:Nat):Int):=by
  by_cases h1:z<0<;>simp[h1]<;>omega
 generalize decide (z<0)=b at*;generalize hn:z.natAbs=n at*;rw[e];cases b
 ·rfl
 simp only[if_true];rw[Int.neg_tdiv];rfl
theorem MY (n1 d1 n2 d2:Int) (w:World) (hn1:BI n1) (hd1:BI d1) (hn2:BI n2) (hd2:BI d2):Calls Tryz.prog 81 #[.agg (AI n1 d1).toArray,.agg (AI n2 d2).toArray] w fun e w'=>e= .returned (FZ (Em n1 d1 n2 d2))∧A4 w w':=by
 obtain⟨hb1,hb2,hb3,hG3⟩:=Ci w 24 24 24 (AI n1 d1).toArray (AI n2 d2).toArray (AI 0 0).toArray;have HV1:=V3 (fun w'=>DZ n1 d1 w' hn1 hd1);have HV2:=V3 (fun w'=>DZ n2 d2 w' hn2 hd2);obtain⟨v1,hv1⟩:∃v:Bool,Al n1 d1=v:=⟨_,rfl⟩;obtain⟨v2,hv2⟩:∃v:Bool,Al n2 d2=v:=⟨_,rfl⟩;rw[hv1]at HV1;rw[hv2]at HV2;go_enter Tryz.func81,Tryz.ntmps81;go_upto_region 1 with fail;change Code.wp _ _ _ _ (((w.alloc (.cells (AI n1 d1).toArray 24)).alloc (.cells (AI n2 d2).toArray 24)).alloc (.cells (AI 0 0).toArray 24));generalize ((w.alloc (.cells (AI n1 d1).toArray 24)).alloc (.cells (AI n2 d2).toArray 24)).alloc (.cells (AI 0 0).toArray 24)=w3 at*;cases v1
 ·have HB:=V3 (MS (n2:=n2) (d2:=d2) (.inl hv1));clear hv1 hv2;go_upto_region 2 with(first|(refine BZ 24 Tryz.underlying24 rfl (.tmp 2) (w.heap.size) (AI n1 d1) 24 Ao rfl rfl rfl hb1 ?_)|(go_at_call 92;(with_reducible refine(HV1.out _).mono ?_);rintro e w4 ⟨rfl,k4⟩;have hc1:=hb1.grew k4;have hc2:=hb2.grew k4;have hc3:=hb3.grew k4;have hG4:=hG3.trans k4));have he3:=hc3;have hG5:=hG4;go_wp2_with(refine BL 24 (.tmp 4) (.tmp 25) (w.heap.size+1+1) (AI 0 0) (AI 0 0) 24 Ao rfl (B7 _ _) rfl rfl rfl rfl he3 ?_;intro w8 hb8 k8 d8);refine bodyPost_ret (Au rfl rfl rfl Ao Tryz.underlying24 rfl hb8) rfl ?_;rw[HB.out];exact⟨rfl,VV hG5 k8 (fun i hi e=>by omega)⟩
 cases v2
 ·have HB:=V3 (MS (n1:=n1) (d1:=d1) (.inr hv2));clear hv1 hv2;go_upto_region 2 with(first|(refine BZ 24 Tryz.underlying24 rfl (.tmp 2) (w.heap.size) (AI n1 d1) 24 Ao rfl rfl rfl hb1 ?_)|(refine QF rfl 24 Tryz.underlying24 rfl (.tmp 3) (w.heap.size+1) (AI n2 d2) 24 Ao rfl rfl hc2 ?_)|(go_at_call 92;(with_reducible refine(HV1.out _).mono ?_);rintro e w4 ⟨rfl,k4⟩;have hc1:=hb1.grew k4;have hc2:=hb2.grew k4;have hc3:=hb3.grew k4;have hG4:=hG3.trans k4)|(go_at_call 92;(with_reducible refine(HV2.out _).mono ?_);rintro e w5 ⟨rfl,k5⟩;have he1:=hc1.grew k5;have he2:=hc2.grew k5;have he3:=hc3.grew k5;have hG5:=hG4.trans k5));go_wp2_with(refine BL 24 (.tmp 4) (.tmp 25) (w.heap.size+1+1) (AI 0 0) (AI 0 0) 24 Ao rfl (B7 _ _) rfl rfl rfl rfl he3 ?_;intro w8 hb8 k8 d8);refine bodyPost_ret (Au rfl rfl rfl Ao Tryz.underlying24 rfl hb8) rfl ?_;rw[HB.out];exact⟨rfl,VV hG5 k8 (fun i hi e=>by omega)⟩
 go_upto_region 3 with(first|(refine BZ 24 Tryz.underlying24 rfl (.tmp 2) (w.heap.size) (AI n1 d1) 24 Ao rfl rfl rfl hb1 ?_)|(refine QF rfl 24 Tryz.underlying24 rfl (.tmp 3) (w.heap.size+1) (AI n2 d2) 24 Ao rfl rfl hc2 ?_)|(go_at_call 92;(with_reducible refine(HV1.out _).mono ?_);rintro e w4 ⟨rfl,k4⟩;have hc1:=hb1.grew k4;have hc2:=hb2.grew k4;have hc3:=hb3.grew k4;have hG4:=hG3.trans k4)|(go_at_call 92;(with_reducible refine(HV2.out _).mono ?_);rintro e w5 ⟨rfl,k5⟩;have he1:=hc1.grew k5;have he2:=hc2.grew k5;have he3:=hc3.grew k5;have hG5:=hG4.trans k5));clear hb1 hb2 hb3 hG3 k4 hc1 hc2 hc3 hG4 k5 HV1 HV2;have HVV:=V3 (V5 hv1 hv2);obtain⟨a1,a2,a3,a4,a5⟩:=BT hv1;obtain⟨b1,b2,b3,b4,b5⟩:=BT hv2;clear hv1 hv2 a5 b5;obtain⟨p,rfl⟩:∃p:Nat,d1=(p:Int):=⟨d1.toNat,by omega⟩;obtain⟨q,rfl⟩:∃q:Nat,d2=(q:Int):=⟨d2.toNat,by omega⟩;have c2:w5.cell? ⟨w.heap.size,1,none⟩=some (.int .i64 (p:Int)):=he1.cell 1;have c4:w5.cell? ⟨w.heap.size+1,1,none⟩=some (.int .i64 (q:Int)):=he2.cell 1;have HGC:=V3 (fun w'=>Hr p q w' (by omega) (by omega));have hadd:=S8 HVV.out.1 HVV.out.2 p q rfl rfl (n1*((q/p.gcd q:Nat):Int)+n2*((p/p.gcd q:Nat):Int)) rfl;have hg0:0<p.gcd q:=Nat.gcd_pos_of_pos_left _ (by omega);have hgq:p.gcd q≤q:=Nat.gcd_le_right _ (by omega);obtain⟨g,hge⟩:∃g,p.gcd q=g:=⟨_,rfl⟩;rw[hge]at HGC hadd hg0 hgq;have l1:=Nat.div_le_self q g;have l2:=Nat.div_le_self p g;have f1:(q:Int).tdiv (g:Int)=((q/g:Nat):Int):=rfl;have f2:(p:Int).tdiv (g:Int)=((p/g:Nat):Int):=rfl;obtain⟨qg,hqg⟩:∃x,q/g=x:=⟨_,rfl⟩;obtain⟨pg,hpg⟩:∃x,p/g=x:=⟨_,rfl⟩;rw[hqg]at hadd l1 f1;rw[hpg]at hadd l2 f2;have f3:IntKind.i64.wrap (qg:Int)=(qg:Int):=IntWalk.i64_in _ (by omega);have f4:IntKind.i64.wrap (pg:Int)=(pg:Int):=IntWalk.i64_in _ (by omega);have f5:IntKind.u64.wrap (pg:Int)=(pg:Int):=AS _ (by omega);have f6:IntKind.u64.wrap (q:Int)=(q:Int):=AS _ (by omega);have f7:IntKind.u64.wrap (g:Int)=(g:Int):=AS _ (by omega);have hsm:=fun w'=>Pz n1 qg n2 pg w' ⟨by omega,by omega⟩ ⟨by omega,by omega⟩ ⟨by omega,by omega⟩ ⟨by omega,by omega⟩
 have hz1:=FD (a:=n1) (b:=(qg:Int)) ⟨by omega,by omega⟩ ⟨by omega,by omega⟩;have hz2:=FD (a:=n2) (b:=(pg:Int)) ⟨by omega,by omega⟩ ⟨by omega,by omega⟩;have hzl:(n1*(qg:Int)+n2*(pg:Int)).natAbs≤42535295865117307932921825928971026432:=by omega
 obtain⟨z0,hz0⟩:∃x,n1*(qg:Int)+n2*(pg:Int)=x:=⟨_,rfl⟩;rw[hz0]at hadd hsm hzl;have HSM:=V3 hsm;have q0:¬(g:Int)=0:=by omega
 have q1:¬g=0:=by omega
 have HB0:=V3 (V5 hg0 (V5 hgq (V5 a1 (V5 a2 (V5 b1 (V5 b2 (V5 hzl (V5 l2 hadd))))))));clear hge hqg hpg hsm hz1 hz2 hz0 hg0 hgq l1 l2 hzl hadd hn1 hn2 hd1 hd2 a1 a2 a3 a4 b1 b2 b3 b4;go_upto_region 4 with(go_at_call 113;(with_reducible refine(HGC.out _).mono ?_);rintro e w6 ⟨rfl,nn,rfl⟩);have m1:=he1.drewN nn;have m2:=he2.drewN nn;have m3:=he3.drewN nn;have hG6:=Va hG5 nn;generalize w5.drewN nn=w6 at*;clear he1 he2 he3 hG5 c2 c4 HGC;have HS:=V3 (show ∀w',A4 w6.drew w'→w'.cell? ⟨w.heap.size,0,none⟩=some (.int .i64 n1)∧w'.cell? ⟨w.heap.size,1,none⟩=some (.int .i64 (p:Int))∧w'.cell? ⟨w.heap.size+1,0,none⟩=some (.int .i64 n2)∧w'.cell? ⟨w.heap.size+1,1,none⟩=some (.int .i64 (q:Int))from fun w' g=>⟨((m1.drewN 1).grew g).cell 0,((m1.drewN 1).grew g).cell 1,((m2.drewN 1).grew g).cell 0,((m2.drewN 1).grew g).cell 1⟩);refine Fr (by kernel_rfl) 14 13 7 [.pointer (some ⟨w.heap.size,0,none⟩),.int .i64 n1,.pointer (some ⟨w.heap.size+1,1,none⟩),.int .i64 (q:Int),.int .i64 (g:Int),.int .i64 (qg:Int),.pointer (some ⟨w.heap.size+1,0,none⟩),.int .i64 n2,.pointer (some ⟨w.heap.size,1,none⟩),.int .i64 (p:Int),.int .i64 (g:Int),.int .i64 (pg:Int),.agg (B5 z0).toArray,undef] 169 [.int .u64 0,.int .u64 0,.bool false] _ (by kernel_rfl) (by kernel_rfl) (by decide) (by rfl) rfl (VH (by kernel_rfl)) (by kernel_rfl) ?hH1 ?hal1 (B5 z0) (.tmp 7) (.tmp 43) 169 _ rfl rfl rfl rfl EI rfl (GY _) (fun z=>by kernel_rfl) (fun z=>by kernel_rfl) (by kernel_rfl) (by kernel_rfl) ?hT1
 case hH1=>
  simp only[List.toList_toArray,List.take_succ_cons,List.take_zero,Af,Act.put,List.setIfInBounds_toArray,List.set_cons_zero,List.set_cons_succ];refine AN (fun z w' hg=>?_) ?_
  ·go_simp;exact VU _
  refine AN (fun z w' hg=>?_) ?_
  ·obtain⟨c1,c2,c3,c4⟩:=HS.out _ hg;go_simp;exact VU _
  refine AN (fun z w' hg=>?_) ?_
  ·go_simp;exact VU _
  refine AN (fun z w' hg=>?_) ?_
  ·obtain⟨c1,c2,c3,c4⟩:=HS.out _ hg;go_simp;exact VU _
  refine AN (fun z w' hg=>?_) ?_
  ·go_simp;exact VU _
  refine AN (fun z w' hg=>?_) ?_
  ·go_simp;exact VU _
  refine AN (fun z w' hg=>?_) ?_
  ·go_simp;exact VU _
  refine AN (fun z w' hg=>?_) ?_
  ·obtain⟨c1,c2,c3,c4⟩:=HS.out _ hg;go_simp;exact VU _
  refine AN (fun z w' hg=>?_) ?_
  ·go_simp;exact VU _
  refine AN (fun z w' hg=>?_) ?_
  ·obtain⟨c1,c2,c3,c4⟩:=HS.out _ hg;go_simp;exact VU _
  refine AN (fun z w' hg=>?_) ?_
  ·go_simp;exact VU _
  refine AN (fun z w' hg=>?_) ?_
  ·go_simp;exact VU _
  refine AN (fun z w' hg=>?_) ?_
  ·go_simp;(with_reducible refine(HSM.out _).mono ?_);rintro e wq ⟨rfl,kq⟩;exact⟨rfl,kq⟩
  refine Fd ?_;exact DU
 case hal1=>
  intro o ho a1 w1 K hK;obtain rfl:=VE ho;go_simp;exact hK _ rfl
 case hT1=>
  intro z wz hz hbz hgz;simp only[List.toList_toArray,List.take_succ_cons,List.take_zero,Af,Act.put,List.setIfInBounds_toArray,List.set_cons_zero,List.set_cons_succ];have h4:=m1.grew hgz;have h5:=m2.grew hgz;have h6:=m3.grew hgz;have hGz:=hG6.trans hgz;clear m1 m2 m3 hG6 hgz HS hz HSM;generalize hz7:z=z7 at*;clear hz7;have hq:=fun(r:Bool) hr=>Gj z0 r hr
  by_cases hz:z0=0
  ·have HB:Hid (Em n1 p n2 q=(0,1,0)):=V3 (by rw[HB0.out.2.2.2.2.2.2.2.2,VN hz]);have hq1:=hq true (by simpa using hz);clear hq hz;go_upto_region 6 with(refine BZ 169 Tryz.underlying169 rfl (.tmp 7) z7 (B5 z0) 169 EI rfl rfl rfl hbz ?_);go_wp2_with(refine BL 24 (.tmp 4) (.tmp 47) (w.heap.size+1+1) (AI 0 1) (AI 0 0) 24 Ao rfl (B7 _ _) rfl rfl rfl rfl h6 ?_;intro w8 hb8 k8 d8);refine bodyPost_ret (Au rfl rfl rfl Ao Tryz.underlying24 rfl hb8) rfl ?_;rw[HB.out];exact⟨rfl,VV hGz k8 (fun i hi e=>by omega)⟩
  have hq1:=hq false (by simpa using hz);have HAD:=HB0.out.2.2.2.2.2.2.2.2;rw[VM hz]at HAD;replace HAD:=V3 HAD;clear hq;have c5:wz.cell? ⟨z7,0,none⟩=some (.int .u64 ((z0.natAbs/18446744073709551616:Nat):Int)):=hbz.cell 0;have c6:wz.cell? ⟨z7,1,none⟩=some (.int .u64 ((z0.natAbs%18446744073709551616:Nat):Int)):=hbz.cell 1;have c7:wz.cell? ⟨z7,2,none⟩=some (.bool (decide (z0<0))):=hbz.cell 2;have hB7:=fun w' (k:A4 wz w')=>hbz.grew k
  have hlo:=Nat.mod_lt z0.natAbs (show 0<18446744073709551616 by decide);have hdm:=Nat.div_add_mod z0.natAbs 18446744073709551616;have hhi:z0.natAbs/18446744073709551616<4611686018427387904:=by have:=HB0.out;omega
  have HC7:=V3 (show ∀w',A4 wz w'→w'.cell? ⟨z7,0,none⟩=some (.int .u64 ((z0.natAbs/18446744073709551616:Nat):Int))∧w'.cell? ⟨z7,1,none⟩=some (.int .u64 ((z0.natAbs%18446744073709551616:Nat):Int))∧w'.cell? ⟨z7,2,none⟩=some (.bool (decide (z0<0)))from fun w' k=>⟨(hbz.grew k).cell 0,(hbz.grew k).cell 1,(hbz.grew k).cell 2⟩);have HTD:=V3 (Om z0 (z0.natAbs.gcd g));clear hB7;have b7:=hbz;clear hbz;obtain⟨hi,hhie⟩:∃x,z0.natAbs/18446744073709551616=x:=⟨_,rfl⟩;obtain⟨lo,hloe⟩:∃x,z0.natAbs%18446744073709551616=x:=⟨_,rfl⟩;rw[hhie]at c5 hdm hhi HC7;rw[hloe]at c6 hdm hlo HC7;have hzz:hi*18446744073709551616+lo=z0.natAbs:=by omega
  have HRM:=fun w'=>P5 hi lo g w' (by omega) HB0.out.1 (by have:=HB0.out;omega) hlo
  rw[hzz]at HRM;have hgr:(z0.natAbs%g).gcd g=z0.natAbs.gcd g:=by rw[←Nat.gcd_rec,Nat.gcd_comm]
  have hrl:=Nat.mod_lt z0.natAbs HB0.out.1;have hh0:0<z0.natAbs.gcd g:=Nat.gcd_pos_of_pos_right _ HB0.out.1;have hhg:z0.natAbs.gcd g≤g:=Nat.gcd_le_right _ HB0.out.1;have HGU:=fun w'=>R8 (z0.natAbs%g) g w' (by have:=HB0.out;omega) (by have:=HB0.out;omega)
  rw[hgr]at HGU;have hdw:=OZ hi lo (z0.natAbs.gcd g) hh0;rw[hzz]at hdw;obtain⟨rs,hrs⟩:∃x,z0.natAbs%g=x:=⟨_,rfl⟩;obtain⟨h,hhe⟩:∃x,z0.natAbs.gcd g=x:=⟨_,rfl⟩;rw[hrs]at HRM HGU;rw[hhe]at HGU hdw hh0 hhg HAD HTD;replace HRM:=V3 HRM;replace HGU:=V3 HGU;have j0:¬(h:Int)=0:=by omega
  have j1:¬h=0:=by omega
  have j2:(hi:Int).tdiv (h:Int)=((hi/h:Nat):Int):=rfl;have j3:(hi:Int).tmod (h:Int)=((hi%h:Nat):Int):=by rw[Int.tmod_eq_emod_of_nonneg (by omega)];rfl
  have j4:(q:Int).tdiv (h:Int)=((q/h:Nat):Int):=rfl;have o1:=Nat.div_le_self hi h;have o2:=Nat.mod_lt hi hh0;have o3:=Nat.div_le_self q h;obtain⟨hq2,hhq⟩:∃x,hi/h=x:=⟨_,rfl⟩;obtain⟨hr,hhr⟩:∃x,hi%h=x:=⟨_,rfl⟩;obtain⟨qh,hqh⟩:∃x,q/h=x:=⟨_,rfl⟩;rw[hhq]at j2 o1 hdw;rw[hhr]at j3 o2 hdw;rw[hqh]at j4 o3 HAD;have j5:IntKind.u64.wrap (hq2:Int)=(hq2:Int):=AS _ (by omega);have j6:IntKind.u64.wrap (qh:Int)=(qh:Int):=AS _ (by have:=HB0.out;omega);have HDV:=fun w'=>KO hr lo h w' o2 (by have:=HB0.out;omega) hlo
  unfold E3 at HDV;obtain⟨lq,hlq⟩:∃x,(hr*18446744073709551616+lo)/h=x:=⟨_,rfl⟩;obtain⟨lr,hlr⟩:∃x,(hr*18446744073709551616+lo)%h=x:=⟨_,rfl⟩;rw[hlq]at HDV hdw;rw[hlr]at HDV;replace HDV:=V3 HDV;have HML:=fun w'=>KU pg qh (by have:=HB0.out;omega) (by have:=HB0.out;omega) w'
  have hpq:=Nat.div_add_mod (pg*qh) 18446744073709551616;have hdl:=Nat.mod_lt (pg*qh) (show 0<18446744073709551616 by decide);obtain⟨ov,hov⟩:∃x,pg*qh/18446744073709551616=x:=⟨_,rfl⟩;obtain⟨dn,hdn⟩:∃x,pg*qh%18446744073709551616=x:=⟨_,rfl⟩;rw[hov]at HML hpq;rw[hdn]at HML hpq hdl;replace HML:=V3 HML;have HLW:=V3 hdw;have HDN:Hid (pg*qh=ov*18446744073709551616+dn):=V3 (by omega);have hlql:lq<18446744073709551616:=by
   rw[←hlq,Nat.div_lt_iff_lt_mul hh0];have h1:hr+1≤h:=o2;have h2:=Nat.mul_le_mul_left 18446744073709551616 h1;omega
  have HLL:=V3 (V5 hlql hdl);clear hlql hdl hov hdn hpq hlq hlr hhq hhr hqh o1 o2 o3 hhe hrs hdw hh0 hhg hrl hgr hzz hhi hdm hlo hhie hloe hz;go_upto_region 7 with(refine BZ 169 Tryz.underlying169 rfl (.tmp 7) z7 (B5 z0) 169 EI rfl rfl rfl b7 ?_);clear hq1 b7;go_upto_region 9 with(go_at_call 115;(with_reducible refine(HRM.out _).mono ?_);rintro e wr ⟨rfl,kr⟩);clear c5 c6 c7;obtain⟨c5,c6,c7⟩:=HC7.out _ kr;go_upto_region 10 with(go_at_call 116;(with_reducible refine(HGU.out _).mono ?_);rintro e wu ⟨rfl,nu,rfl⟩);have ku:A4 wz (wr.drewN nu):=Va kr nu;generalize wr.drewN nu=wu at*;clear c5 c6 c7;obtain⟨c5,c6,c7⟩:=HC7.out _ ku;go_upto_region 11 with fail;clear c5 c6 c7;have HS:=V3 (show ∀w',A4 wu.drew w'→w'.cell? ⟨z7,0,none⟩=some (.int .u64 (hi:Int))∧w'.cell? ⟨z7,1,none⟩=some (.int .u64 (lo:Int))from fun w' k=>⟨(HC7.out w' ((ku.trans (VX (VU wu))).trans k)).1,(HC7.out w' ((ku.trans (VX (VU wu))).trans k)).2.1⟩);refine Jj (by kernel_rfl) 12 [.pointer (some ⟨z7,0,none⟩),.int .u64 (hi:Int),.int .u64 (h:Int),.int .u64 (hr:Int),.pointer (some ⟨z7,1,none⟩),.int .u64 (lo:Int),.int .u64 (h:Int),.tuple #[.int .u64 (lq:Int),.int .u64 (lr:Int)],.tuple #[.int .u64 (lq:Int),.int .u64 (lr:Int)],.int .u64 (lq:Int),.int .u64 (lr:Int),.int .u64 (lq:Int)] _ (by kernel_rfl) (by kernel_rfl) (by kernel_rfl) rfl ?sH2 13 _ rfl rfl rfl (.int .u64 (lr:Int)) ?sV2 (by kernel_rfl) (by kernel_rfl) ?sT2
  case sH2=>
   simp only[List.toList_toArray,List.take_succ_cons,List.take_zero,Af,Act.put,List.setIfInBounds_toArray,List.set_cons_zero,List.set_cons_succ];refine AN (fun z w' hg=>?_) ?_
   ·go_simp;exact VU _
   refine AN (fun z w' hg=>?_) ?_
   ·obtain⟨c5,c6⟩:=HS.out _ hg;go_simp;exact VU _
   refine AN (fun z w' hg=>?_) ?_
   ·go_simp;exact VU _
   refine AN (fun z w' hg=>?_) ?_
   ·go_simp;exact VU _
   refine AN (fun z w' hg=>?_) ?_
   ·go_simp;exact VU _
   refine AN (fun z w' hg=>?_) ?_
   ·obtain⟨c5,c6⟩:=HS.out _ hg;go_simp;exact VU _
   refine AN (fun z w' hg=>?_) ?_
   ·go_simp;exact VU _
   refine AN (fun z w' hg=>?_) ?_
   ·go_simp;(with_reducible refine(HDV.out _).mono ?_);rintro e wq ⟨rfl,kq⟩;exact⟨rfl,kq⟩
   refine AN (fun z w' hg=>?_) ?_
   ·go_simp;exact VU _
   refine AN (fun z w' hg=>?_) ?_
   ·go_simp;exact VU _
   refine AN (fun z w' hg=>?_) ?_
   ·go_simp;exact VU _
   refine AN (fun z w' hg=>?_) ?_
   ·go_simp;exact VU _
   exact DU
  case sV2=>
   intro w';simp only[List.toList_toArray,List.take_succ_cons,List.take_zero,Af,Act.put,List.setIfInBounds_toArray,List.set_cons_zero,List.set_cons_succ];go_simp
  case sT2=>
   intro wn hgn;simp only[List.toList_toArray,List.take_succ_cons,List.take_zero,Af,Act.put,List.setIfInBounds_toArray,List.set_cons_zero,List.set_cons_succ];have kn:=ku.trans hgn;have e4:=h4.grew kn;have e5:=h5.grew kn;clear HS ku kr hgn;have HS:=V3 (show ∀w',A4 wn.drew w'→w'.cell? ⟨w.heap.size,0,none⟩=some (.int .i64 n1)∧w'.cell? ⟨w.heap.size,1,none⟩=some (.int .i64 (p:Int))∧w'.cell? ⟨w.heap.size+1,0,none⟩=some (.int .i64 n2)∧w'.cell? ⟨w.heap.size+1,1,none⟩=some (.int .i64 (q:Int))from fun w' g=>⟨((e4.drewN 1).grew g).cell 0,((e4.drewN 1).grew g).cell 1,((e5.drewN 1).grew g).cell 0,((e5.drewN 1).grew g).cell 1⟩);go_upto_region 12 with fail;refine Jj (by kernel_rfl) 15 [.pointer (some ⟨w.heap.size,1,none⟩),.int .i64 (p:Int),.int .i64 (g:Int),.int .i64 (pg:Int),.int .u64 (pg:Int),.pointer (some ⟨w.heap.size+1,1,none⟩),.int .i64 (q:Int),.int .u64 (q:Int),.int .u64 (h:Int),.int .u64 (qh:Int),.tuple #[.int .u64 (ov:Int),.int .u64 (dn:Int)],.tuple #[.int .u64 (ov:Int),.int .u64 (dn:Int)],.int .u64 (ov:Int),.int .u64 (dn:Int),.int .u64 (ov:Int)] _ (by kernel_rfl) (by kernel_rfl) (by kernel_rfl) rfl ?sH3 15 _ rfl rfl rfl (.int .u64 (dn:Int)) ?sV3 (by kernel_rfl) (by kernel_rfl) ?sT3
   case sH3=>
    simp only[List.toList_toArray,List.take_succ_cons,List.take_zero,Af,Act.put,List.setIfInBounds_toArray,List.set_cons_zero,List.set_cons_succ];refine AN (fun z w' hg=>?_) ?_
    ·go_simp;exact VU _
    refine AN (fun z w' hg=>?_) ?_
    ·obtain⟨c1,c2,c3,c4⟩:=HS.out _ hg;go_simp;exact VU _
    refine AN (fun z w' hg=>?_) ?_
    ·go_simp;exact VU _
    refine AN (fun z w' hg=>?_) ?_
    ·go_simp;exact VU _
    refine AN (fun z w' hg=>?_) ?_
    ·go_simp;exact VU _
    refine AN (fun z w' hg=>?_) ?_
    ·go_simp;exact VU _
    refine AN (fun z w' hg=>?_) ?_
    ·obtain⟨c1,c2,c3,c4⟩:=HS.out _ hg;go_simp;exact VU _
    refine AN (fun z w' hg=>?_) ?_
    ·go_simp;exact VU _
    refine AN (fun z w' hg=>?_) ?_
    ·go_simp;exact VU _
    refine AN (fun z w' hg=>?_) ?_
    ·go_simp;exact VU _
    refine AN (fun z w' hg=>?_) ?_
    ·go_simp;(with_reducible refine(HML.out _).mono ?_);rintro e wq ⟨rfl,rfl⟩;exact⟨rfl,VU _⟩
    refine AN (fun z w' hg=>?_) ?_
    ·go_simp;exact VU _
    refine AN (fun z w' hg=>?_) ?_
    ·go_simp;exact VU _
    refine AN (fun z w' hg=>?_) ?_
    ·go_simp;exact VU _
    refine AN (fun z w' hg=>?_) ?_
    ·go_simp;exact VU _
    exact DU
   case sV3=>
    intro w';simp only[List.toList_toArray,List.take_succ_cons,List.take_zero,Af,Act.put,List.setIfInBounds_toArray,List.set_cons_zero,List.set_cons_succ];go_simp
   case sT3=>
    intro wp hgp;simp only[List.toList_toArray,List.take_succ_cons,List.take_zero,Af,Act.put,List.setIfInBounds_toArray,List.set_cons_zero,List.set_cons_succ];have kp:=kn.trans hgp;obtain⟨c5,c6,c7⟩:=HC7.out _ kp;have h6:=h6.grew kp;have hGf:=hGz.trans kp;clear c5 c6 HS kn hgp e4 e5 j0 j1 j2 j3 j4 j5 j6 f1 f2 f3 f4 f5 f6 f7 q0 q1 h4 h5;by_cases k1:hq2=0
    case neg=>
     have u1:((hq2:Int)==0)=false:=by rw[V4];omega
     have u2:((hq2:Int) !=0)=true:=by simp;omega
     have HB:Hid (Em n1 p n2 q=(0,0,5)):=V3 (by rw[HAD.out,VM];rw[HLW.out,HDN.out];omega);go_upto_region 14 with fail;go_wp2_with(refine BL 24 (.tmp 4) (.tmp 102) (w.heap.size+1+1) (AI 0 0) (AI 0 0) 24 Ao rfl (B7 _ _) rfl rfl rfl rfl h6 ?_;intro w8 hb8 k8 d8);refine bodyPost_ret (Au rfl rfl rfl Ao Tryz.underlying24 rfl hb8) rfl ?_;rw[HB.out];exact⟨rfl,VV hGf k8 (fun i hi e=>by omega)⟩
    have u1:((hq2:Int)==0)=true:=by rw[VC];omega
    have u2:((hq2:Int) !=0)=false:=by simp;omega
    by_cases k2:4611686018427387904<lq
    case pos=>
     have u3:decide ((4611686018427387904:Int)<(lq:Int))=true:=by simp;omega
     have HB:Hid (Em n1 p n2 q=(0,0,5)):=V3 (by rw[HAD.out,VM];rw[HLW.out,HDN.out];omega);go_upto_region 14 with fail;go_wp2_with(refine BL 24 (.tmp 4) (.tmp 102) (w.heap.size+1+1) (AI 0 0) (AI 0 0) 24 Ao rfl (B7 _ _) rfl rfl rfl rfl h6 ?_;intro w8 hb8 k8 d8);refine bodyPost_ret (Au rfl rfl rfl Ao Tryz.underlying24 rfl hb8) rfl ?_;rw[HB.out];exact⟨rfl,VV hGf k8 (fun i hi e=>by omega)⟩
    have u3:decide ((4611686018427387904:Int)<(lq:Int))=false:=by simp;omega
    by_cases k3:ov=0
    case neg=>
     have u4:((ov:Int)==0)=false:=by rw[V4];omega
     have u5:((ov:Int) !=0)=true:=by simp;omega
     have HB:Hid (Em n1 p n2 q=(0,0,5)):=V3 (by rw[HAD.out,VM];rw[HLW.out,HDN.out];omega);go_upto_region 14 with fail;go_wp2_with(refine BL 24 (.tmp 4) (.tmp 102) (w.heap.size+1+1) (AI 0 0) (AI 0 0) 24 Ao rfl (B7 _ _) rfl rfl rfl rfl h6 ?_;intro w8 hb8 k8 d8);refine bodyPost_ret (Au rfl rfl rfl Ao Tryz.underlying24 rfl hb8) rfl ?_;rw[HB.out];exact⟨rfl,VV hGf k8 (fun i hi e=>by omega)⟩
    have u4:((ov:Int)==0)=true:=by rw[VC];omega
    have u5:((ov:Int) !=0)=false:=by simp;omega
    by_cases k4:4611686018427387904<dn
    case pos=>
     have u6:decide ((4611686018427387904:Int)<(dn:Int))=true:=by simp;omega
     have HB:Hid (Em n1 p n2 q=(0,0,5)):=V3 (by rw[HAD.out,VM];rw[HLW.out,HDN.out];omega);go_upto_region 14 with fail;go_wp2_with(refine BL 24 (.tmp 4) (.tmp 102) (w.heap.size+1+1) (AI 0 0) (AI 0 0) 24 Ao rfl (B7 _ _) rfl rfl rfl rfl h6 ?_;intro w8 hb8 k8 d8);refine bodyPost_ret (Au rfl rfl rfl Ao Tryz.underlying24 rfl hb8) rfl ?_;rw[HB.out];exact⟨rfl,VV hGf k8 (fun i hi e=>by omega)⟩
    have u6:decide ((4611686018427387904:Int)<(dn:Int))=false:=by simp;omega
    have HB:Hid (Em n1 p n2 q=(if decide (z0<0)=true then -(lq:Int)else(lq:Int),(dn:Int),0)):=V3 (by
     rw[HAD.out,VN (by rw[HLW.out,HDN.out];omega),HTD.out,HLW.out,HDN.out,k1,k3];simp)
    have v1:IntKind.i64.wrap (lq:Int)=(lq:Int):=IntWalk.i64_in _ (by omega);have v2:IntKind.i64.wrap (-(lq:Int))= -(lq:Int):=IntWalk.i64_in _ (by omega);have v3:IntKind.i64.wrap (dn:Int)=(dn:Int):=IntWalk.i64_in _ (by omega);clear k1 k2 k3 k4;generalize decide (z0<0)=sg at*;go_upto_region 16 with fail;clear u1 u2 u3 u4 u5 u6;cases sg
    ·go_upto_region 18 with fail;go_wp2_with(refine BL 24 (.tmp 4) (.tmp 112) (w.heap.size+1+1) (AI (lq:Int) (dn:Int)) (AI 0 0) 24 Ao rfl (B7 _ _) rfl rfl rfl rfl h6 ?_;intro w8 hb8 k8 d8);refine bodyPost_ret (Au rfl rfl rfl Ao Tryz.underlying24 rfl hb8) rfl ?_;rw[HB.out];exact⟨rfl,VV hGf k8 (fun i hi e=>by omega)⟩
    go_upto_region 18 with fail;go_wp2_with(refine BL 24 (.tmp 4) (.tmp 112) (w.heap.size+1+1) (AI (-(lq:Int)) (dn:Int)) (AI 0 0) 24 Ao rfl (B7 _ _) rfl rfl rfl rfl h6 ?_;intro w8 hb8 k8 d8);refine bodyPost_ret (Au rfl rfl rfl Ao Tryz.underlying24 rfl hb8) rfl ?_;rw[HB.out];exact⟨rfl,VV hGf k8 (fun i hi e=>by omega)⟩
theorem QL (n1 d1 n2 d2:Int) (w:World) (hn1:BI n1) (hd1:BI d1) (hn2:BI n2) (hd2:BI d2):Calls Tryz.prog 82 #[.agg (AI n1 d1).toArray,.agg (AI n2 d2).toArray] w fun e w'=>e= .returned (FZ (Jx n1 d1 n2 d2))∧A4 w w':=by
 obtain⟨hb1,hb2,hb3,hG3⟩:=Ci w 24 24 24 (AI n1 d1).toArray (AI n2 d2).toArray (AI 0 0).toArray;have HV1:=V3 (fun w'=>DZ n1 d1 w' hn1 hd1);have HV2:=V3 (fun w'=>DZ n2 d2 w' hn2 hd2);obtain⟨v1,hv1⟩:∃v:Bool,Al n1 d1=v:=⟨_,rfl⟩;obtain⟨v2,hv2⟩:∃v:Bool,Al n2 d2=v:=⟨_,rfl⟩;rw[hv1]at HV1;rw[hv2]at HV2;go_enter Tryz.func82,Tryz.ntmps82;go_upto_region 1 with fail;change Code.wp _ _ _ _ (((w.alloc (.cells (AI n1 d1).toArray 24)).alloc (.cells (AI n2 d2).toArray 24)).alloc (.cells (AI 0 0).toArray 24));generalize ((w.alloc (.cells (AI n1 d1).toArray 24)).alloc (.cells (AI n2 d2).toArray 24)).alloc (.cells (AI 0 0).toArray 24)=w3 at*;cases v1
 ·have HB:=V3 (Lw (n2:=n2) (d2:=d2) (.inl hv1));clear hv1 hv2;go_upto_region 2 with(first|(refine BZ 24 Tryz.underlying24 rfl (.tmp 2) (w.heap.size) (AI n1 d1) 24 Ao rfl rfl rfl hb1 ?_)|(go_at_call 92;(with_reducible refine(HV1.out _).mono ?_);rintro e w4 ⟨rfl,k4⟩;have hc1:=hb1.grew k4;have hc2:=hb2.grew k4;have hc3:=hb3.grew k4;have hG4:=hG3.trans k4));have he3:=hc3;have hG5:=hG4;go_wp2_with(refine BL 24 (.tmp 4) (.tmp 14) (w.heap.size+1+1) (AI 0 0) (AI 0 0) 24 Ao rfl (B7 _ _) rfl rfl rfl rfl he3 ?_;intro w8 hb8 k8 d8);refine bodyPost_ret (Au rfl rfl rfl Ao Tryz.underlying24 rfl hb8) rfl ?_;rw[HB.out];exact⟨rfl,VV hG5 k8 (fun i hi e=>by omega)⟩
 cases v2
 ·have HB:=V3 (Lw (n1:=n1) (d1:=d1) (.inr hv2));clear hv1 hv2;go_upto_region 2 with(first|(refine BZ 24 Tryz.underlying24 rfl (.tmp 2) (w.heap.size) (AI n1 d1) 24 Ao rfl rfl rfl hb1 ?_)|(refine QF rfl 24 Tryz.underlying24 rfl (.tmp 3) (w.heap.size+1) (AI n2 d2) 24 Ao rfl rfl hc2 ?_)|(go_at_call 92;(with_reducible refine(HV1.out _).mono ?_);rintro e w4 ⟨rfl,k4⟩;have hc1:=hb1.grew k4;have hc2:=hb2.grew k4;have hc3:=hb3.grew k4;have hG4:=hG3.trans k4)|(go_at_call 92;(with_reducible refine(HV2.out _).mono ?_);rintro e w5 ⟨rfl,k5⟩;have he1:=hc1.grew k5;have he2:=hc2.grew k5;have he3:=hc3.grew k5;have hG5:=hG4.trans k5));go_wp2_with(refine BL 24 (.tmp 4) (.tmp 14) (w.heap.size+1+1) (AI 0 0) (AI 0 0) 24 Ao rfl (B7 _ _) rfl rfl rfl rfl he3 ?_;intro w8 hb8 k8 d8);refine bodyPost_ret (Au rfl rfl rfl Ao Tryz.underlying24 rfl hb8) rfl ?_;rw[HB.out];exact⟨rfl,VV hG5 k8 (fun i hi e=>by omega)⟩
 go_upto_region 3 with(first|(refine BZ 24 Tryz.underlying24 rfl (.tmp 2) (w.heap.size) (AI n1 d1) 24 Ao rfl rfl rfl hb1 ?_)|(refine QF rfl 24 Tryz.underlying24 rfl (.tmp 3) (w.heap.size+1) (AI n2 d2) 24 Ao rfl rfl hc2 ?_)|(go_at_call 92;(with_reducible refine(HV1.out _).mono ?_);rintro e w4 ⟨rfl,k4⟩;have hc1:=hb1.grew k4;have hc2:=hb2.grew k4;have hc3:=hb3.grew k4;have hG4:=hG3.trans k4)|(go_at_call 92;(with_reducible refine(HV2.out _).mono ?_);rintro e w5 ⟨rfl,k5⟩;have he1:=hc1.grew k5;have he2:=hc2.grew k5;have he3:=hc3.grew k5;have hG5:=hG4.trans k5));clear hb1 hb2 hb3 hG3 k4 hc1 hc2 hc3 hG4 k5 HV1 HV2;obtain⟨b1,b2,b3,b4,b5⟩:=BT hv2;have c1:w5.cell? ⟨w.heap.size+1,0,none⟩=some (.int .i64 n2):=he2.cell 0;have c2:w5.cell? ⟨w.heap.size+1,1,none⟩=some (.int .i64 d2):=he2.cell 1;have HA:=fun w'=>MY n1 d1 (-n2) d2 w' hn1 hd1 ⟨by omega,by omega⟩ hd2
 obtain⟨⟨x,y,er⟩,hp⟩:∃r,Em n1 d1 (-n2) d2=r:=⟨_,rfl⟩;have HB:Hid (Jx n1 d1 n2 d2=(x,y,er)):=V3 ((Rh hv1 hv2).trans hp);rw[hp]at HA;simp only[FZ]at HA;replace HA:=V3 HA;have e1:IntKind.i64.wrap (-n2)= -n2:=IntWalk.i64_in _ (by omega);clear hv1 hv2 b1 b2 b3 b4 b5 hp hn1 hd1 hn2 hd2;go_wp2_with(first|(refine BZ 24 Tryz.underlying24 rfl (.tmp 2) (w.heap.size) (AI n1 d1) 24 Ao rfl rfl rfl he1 ?_)|(go_at_call 81;refine(HA.out _).mono ?_;rintro e w6 ⟨rfl,k6⟩;have hd3:=he3.grew k6;have hG6:=hG5.trans k6)|(refine BL 24 (.tmp 4) (.tmp 23) (w.heap.size+1+1) (AI x y) (AI 0 0) 24 Ao rfl (B7 _ _) rfl rfl rfl rfl hd3 ?_;intro w8 hb8 k8 d8));refine bodyPost_ret (Au rfl rfl rfl Ao Tryz.underlying24 rfl hb8) rfl ?_;rw[HB.out];exact⟨rfl,VV hG6 k8 (fun i hi e=>by omega)⟩
theorem R3 (n1 d1 n2 d2:Int) (w:World) (hn1:BI n1) (hd1:BI d1) (hn2:BI n2) (hd2:BI d2):Calls Tryz.prog 84 #[.agg (AI n1 d1).toArray,.agg (AI n2 d2).toArray] w fun e w'=>e= .returned (FZ (Hy n1 d1 n2 d2))∧A4 w w':=by
 obtain⟨hb1,hb2,hb3,hG3⟩:=Ci w 24 24 24 (AI n1 d1).toArray (AI n2 d2).toArray (AI 0 0).toArray;have HV1:=V3 (fun w'=>DZ n1 d1 w' hn1 hd1);have HV2:=V3 (fun w'=>DZ n2 d2 w' hn2 hd2);obtain⟨v1,hv1⟩:∃v:Bool,Al n1 d1=v:=⟨_,rfl⟩;obtain⟨v2,hv2⟩:∃v:Bool,Al n2 d2=v:=⟨_,rfl⟩;rw[hv1]at HV1;rw[hv2]at HV2;go_enter Tryz.func84,Tryz.ntmps84;go_upto_region 1 with fail;change Code.wp _ _ _ _ (((w.alloc (.cells (AI n1 d1).toArray 24)).alloc (.cells (AI n2 d2).toArray 24)).alloc (.cells (AI 0 0).toArray 24));generalize ((w.alloc (.cells (AI n1 d1).toArray 24)).alloc (.cells (AI n2 d2).toArray 24)).alloc (.cells (AI 0 0).toArray 24)=w3 at*;cases v1
 ·have HB:=V3 (LV (n2:=n2) (d2:=d2) (.inl hv1));clear hv1 hv2;go_upto_region 2 with(first|(refine BZ 24 Tryz.underlying24 rfl (.tmp 2) (w.heap.size) (AI n1 d1) 24 Ao rfl rfl rfl hb1 ?_)|(go_at_call 92;(with_reducible refine(HV1.out _).mono ?_);rintro e w4 ⟨rfl,k4⟩;have hc1:=hb1.grew k4;have hc2:=hb2.grew k4;have hc3:=hb3.grew k4;have hG4:=hG3.trans k4));have he3:=hc3;have hG5:=hG4;go_wp2_with(refine BL 24 (.tmp 4) (.tmp 14) (w.heap.size+1+1) (AI 0 0) (AI 0 0) 24 Ao rfl (B7 _ _) rfl rfl rfl rfl he3 ?_;intro w8 hb8 k8 d8);refine bodyPost_ret (Au rfl rfl rfl Ao Tryz.underlying24 rfl hb8) rfl ?_;rw[HB.out];exact⟨rfl,VV hG5 k8 (fun i hi e=>by omega)⟩
 cases v2
 ·have HB:=V3 (LV (n1:=n1) (d1:=d1) (.inr hv2));clear hv1 hv2;go_upto_region 2 with(first|(refine BZ 24 Tryz.underlying24 rfl (.tmp 2) (w.heap.size) (AI n1 d1) 24 Ao rfl rfl rfl hb1 ?_)|(refine QF rfl 24 Tryz.underlying24 rfl (.tmp 3) (w.heap.size+1) (AI n2 d2) 24 Ao rfl rfl hc2 ?_)|(go_at_call 92;(with_reducible refine(HV1.out _).mono ?_);rintro e w4 ⟨rfl,k4⟩;have hc1:=hb1.grew k4;have hc2:=hb2.grew k4;have hc3:=hb3.grew k4;have hG4:=hG3.trans k4)|(go_at_call 92;(with_reducible refine(HV2.out _).mono ?_);rintro e w5 ⟨rfl,k5⟩;have he1:=hc1.grew k5;have he2:=hc2.grew k5;have he3:=hc3.grew k5;have hG5:=hG4.trans k5));go_wp2_with(refine BL 24 (.tmp 4) (.tmp 14) (w.heap.size+1+1) (AI 0 0) (AI 0 0) 24 Ao rfl (B7 _ _) rfl rfl rfl rfl he3 ?_;intro w8 hb8 k8 d8);refine bodyPost_ret (Au rfl rfl rfl Ao Tryz.underlying24 rfl hb8) rfl ?_;rw[HB.out];exact⟨rfl,VV hG5 k8 (fun i hi e=>by omega)⟩
 go_upto_region 3 with(first|(refine BZ 24 Tryz.underlying24 rfl (.tmp 2) (w.heap.size) (AI n1 d1) 24 Ao rfl rfl rfl hb1 ?_)|(refine QF rfl 24 Tryz.underlying24 rfl (.tmp 3) (w.heap.size+1) (AI n2 d2) 24 Ao rfl rfl hc2 ?_)|(go_at_call 92;(with_reducible refine(HV1.out _).mono ?_);rintro e w4 ⟨rfl,k4⟩;have hc1:=hb1.grew k4;have hc2:=hb2.grew k4;have hc3:=hb3.grew k4;have hG4:=hG3.trans k4)|(go_at_call 92;(with_reducible refine(HV2.out _).mono ?_);rintro e w5 ⟨rfl,k5⟩;have he1:=hc1.grew k5;have he2:=hc2.grew k5;have he3:=hc3.grew k5;have hG5:=hG4.trans k5));clear hb1 hb2 hb3 hG3 k4 hc1 hc2 hc3 hG4 k5 HV1 HV2;obtain⟨b1,b2,b3,b4,b5⟩:=BT hv2;have c1:w5.cell? ⟨w.heap.size+1,0,none⟩=some (.int .i64 n2):=he2.cell 0;have c2:w5.cell? ⟨w.heap.size+1,1,none⟩=some (.int .i64 d2):=he2.cell 1;by_cases h0:n2=0
 ·have HB:=V3 (P9 hv1 hv2 h0);have t0:(n2==0)=true:=by simpa using h0
  clear hv1 hv2 h0 b1 b2 b3 b4 b5;go_upto_region 4 with fail;go_wp2_with(refine BL 24 (.tmp 4) (.tmp 19) (w.heap.size+1+1) (AI 0 0) (AI 0 0) 24 Ao rfl (B7 _ _) rfl rfl rfl rfl he3 ?_;intro w8 hb8 k8 d8);refine bodyPost_ret (Au rfl rfl rfl Ao Tryz.underlying24 rfl hb8) rfl ?_;rw[HB.out];exact⟨rfl,VV hG5 k8 (fun i hi e=>by omega)⟩
 have t0:(n2==0)=false:=by simpa using h0
 by_cases h1:n2<0
 ·have t1:decide (n2<0)=true:=by simpa using h1
  have hb0:=Pe hv1 hv2 h0 h1;have HM:=fun w'=>JX n1 d1 (-d2) (-n2) w' hn1 hd1 ⟨by omega,by omega⟩ ⟨by omega,by omega⟩
  have e1:IntKind.i64.wrap (-n2)= -n2:=IntWalk.i64_in _ (by omega);have e2:IntKind.i64.wrap (-d2)= -d2:=IntWalk.i64_in _ (by omega);obtain⟨⟨x,y,er⟩,hp⟩:∃r,EH n1 d1 (-d2) (-n2)=r:=⟨_,rfl⟩;rw[hp]at hb0 HM;have HB:=V3 hb0;simp only[FZ]at HM;replace HM:=V3 HM;clear hv1 hv2 b1 b2 b3 b4 b5 hp h0 h1 hb0 hn1 hd1 hn2 hd2;go_upto_region 6 with fail;go_wp2_with(first|(refine BZ 24 Tryz.underlying24 rfl (.tmp 2) (w.heap.size) (AI n1 d1) 24 Ao rfl rfl rfl he1 ?_)|(go_at_call 83;refine(HM.out _).mono ?_;rintro e w6 ⟨rfl,k6⟩;have hd3:=he3.grew k6;have hG6:=hG5.trans k6)|(refine BL 24 (.tmp 4) (.tmp 33) (w.heap.size+1+1) (AI x y) (AI 0 0) 24 Ao rfl (B7 _ _) rfl rfl rfl rfl hd3 ?_;intro w8 hb8 k8 d8));refine bodyPost_ret (Au rfl rfl rfl Ao Tryz.underlying24 rfl hb8) rfl ?_;rw[HB.out];exact⟨rfl,VV hG6 k8 (fun i hi e=>by omega)⟩
 have t1:decide (n2<0)=false:=by simpa using h1
 have hb0:=Qy hv1 hv2 h0 h1;have HM:=fun w'=>JX n1 d1 d2 n2 w' hn1 hd1 hd2 hn2
 obtain⟨⟨x,y,er⟩,hp⟩:∃r,EH n1 d1 d2 n2=r:=⟨_,rfl⟩;rw[hp]at hb0 HM;have HB:=V3 hb0;simp only[FZ]at HM;replace HM:=V3 HM;clear hv1 hv2 b1 b2 b3 b4 b5 hp h0 h1 hb0 hn1 hd1 hn2 hd2;go_upto_region 7 with fail;go_wp2_with(first|(refine BZ 24 Tryz.underlying24 rfl (.tmp 2) (w.heap.size) (AI n1 d1) 24 Ao rfl rfl rfl he1 ?_)|(go_at_call 83;refine(HM.out _).mono ?_;rintro e w6 ⟨rfl,k6⟩;have hd3:=he3.grew k6;have hG6:=hG5.trans k6)|(refine BL 24 (.tmp 4) (.tmp 42) (w.heap.size+1+1) (AI x y) (AI 0 0) 24 Ao rfl (B7 _ _) rfl rfl rfl rfl hd3 ?_;intro w8 hb8 k8 d8));refine bodyPost_ret (Au rfl rfl rfl Ao Tryz.underlying24 rfl hb8) rfl ?_;rw[HB.out];exact⟨rfl,VV hG6 k8 (fun i hi e=>by omega)⟩
end Go.Proofs.YthpflelgbadkcaaGreatDoor
