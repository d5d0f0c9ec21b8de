/- What the card of the law stands on: NatT, RMul. -/
import Derived.Test.YtkclnhpofkaclaaGreatDoorRewriteFoldP01
import Derived.Test.YtkclnhpofkaclaaGreatDoorRewriteFoldP05
import Derived.Test.YtkclnhpofkaclaaGreatDoorRewriteFoldP04
import Derived.Test.YtkclnhpofkaclaaGreatDoorRewriteFoldP07
import Derived.Test.YtkclnhpofkaclaaGreatDoorRewriteFoldP02
set_option maxRecDepth 100000
set_option maxHeartbeats 12800000
set_option linter.unusedVariables false
set_option linter.unusedSimpArgs false
namespace Go.Proofs.YtkclnhpofkaclaaGreatDoor
open Go.RowKit Pl
theorem S7 (w:World) (t:TypeId) (A B C D:Array Value):AK ((((w.alloc (.cells A t)).alloc (.cells B t)).alloc (.cells C t)).alloc (.cells D t)) w.heap.size t A∧AK ((((w.alloc (.cells A t)).alloc (.cells B t)).alloc (.cells C t)).alloc (.cells D t)) (w.heap.size+1) t B∧AK ((((w.alloc (.cells A t)).alloc (.cells B t)).alloc (.cells C t)).alloc (.cells D t)) (w.heap.size+1+1) t C∧AK ((((w.alloc (.cells A t)).alloc (.cells B t)).alloc (.cells C t)).alloc (.cells D t)) (w.heap.size+1+1+1) t D∧A5 w ((((w.alloc (.cells A t)).alloc (.cells B t)).alloc (.cells C t)).alloc (.cells D t)):=by
 obtain⟨h1,h2,h3,h4⟩:=BO w t t t A B C;have hz:(((w.alloc (.cells A t)).alloc (.cells B t)).alloc (.cells C t)).heap.size=w.heap.size+1+1+1:=by rw[World.size_alloc,World.size_alloc,World.size_alloc]
 have h5:=Ux (((w.alloc (.cells A t)).alloc (.cells B t)).alloc (.cells C t)) t D;rw[hz]at h5;exact⟨h1.alloc _,h2.alloc _,h3.alloc _,h5,h4.alloc _⟩
theorem EI (a b:Nat) (w:World) (ha:a<4294967296^8):Calls Tryz.prog 138 #[Ar a,Ar b] w fun e w'=>e= .returned (Ar (a*b))∧A5 w w':=by
 obtain⟨hb1,hb2,hb3,hb4,hG4⟩:=S7 w 147 (AI (dg a)).toArray (AI (dg b)).toArray (AI (fun _=>0)).toArray (AI (fun _=>0)).toArray;unfold Ar;have H8:Hid (a%4294967296^8*b=a*b):=UX (by rw[Nat.mod_eq_of_lt ha]);have H0:Hid (a%4294967296^0*b=0):=UX (by rw[Nat.pow_zero,Nat.mod_one,Nat.zero_mul]);clear ha;go_enter Tryz.func138,Tryz.ntmps138;go_upto_region 2 with fail;change Code.wp _ _ _ _ ((((w.alloc (.cells (AI (dg a)).toArray 147)).alloc (.cells (AI (dg b)).toArray 147)).alloc (.cells (AI (fun _=>0)).toArray 147)).alloc (.cells (AI (fun _=>0)).toArray 147));generalize (((w.alloc (.cells (AI (dg a)).toArray 147)).alloc (.cells (AI (dg b)).toArray 147)).alloc (.cells (AI (fun _=>0)).toArray 147)).alloc (.cells (AI (fun _=>0)).toArray 147)=w4 at*;have HB:=UX (UZ hb1 (UZ hb2 (UZ hb3 (UZ hb4 hG4))));clear hb1 hb2 hb3 hb4 hG4;go_wp2_with fail;go_loopw [6] (fun i wr=>∃(n:Nat) (F:Nat→Nat),n≤8∧i= .int .i64 (n:Nat)∧AK wr (w.heap.size+1+1+1) 147 (AI F).toArray∧(∀j,j<8→F j=dg (a%4294967296^n*b) j)∧A4 (fun i=>i=w.heap.size+1+1+1) w4 wr) (fun i _=>8-(intOf i).toNat)
 case atStart=>exact⟨0,fun _=>0,by omega,rfl,HB.out.2.2.2.1,fun j _=>by rw[H0.out];simp[dg],Uz _ _⟩
 case round=>
  obtain⟨n,F0,hn,rfl,hbF0,hF0,hGr0⟩:=hrel;by_cases hlt:n<8
  ·have HF0:=UX hF0;have HGr0:=UX hGr0;clear hF0 hGr0;obtain⟨O,hO⟩:∃O,O=a%4294967296^n*b:=⟨_,rfl⟩;rw[←hO]at HF0;have HO:=UX hO;clear hO;obtain⟨A',hA'⟩:∃A',A'=dg a n:=⟨_,rfl⟩;have hAl:A'<4294967296:=by rw[hA'];exact Fm _ _
   have HA:=UX hA';clear hA';have t8:decide ((n:Int)<8)=true:=by simp;omega
   go_wp2_with fail;go_loopw [7,8] (fun c i wi=>∃(k:Nat) (F:Nat→Nat),n+k≤8∧i= .int .i64 (k:Nat)∧c= .int .u64 ((M7 O A' b n k:Nat):Int)∧AK wi (w.heap.size+1+1+1) 147 (AI F).toArray∧(∀j,j<n+k→F j=dg (O+A'*(4294967296^n*(b%4294967296^k))) j)∧(∀j,n+k≤j→j<8→F j=dg O j)∧A4 (fun i=>i=w.heap.size+1+1+1) w4 wi) (fun _ i _=>8-(intOf i).toNat)
   case atStart=>exact⟨0,F0,by omega,rfl,by rw[N7];rfl,hbF0,fun j hj=>by rw[HF0.out j (by omega),Nat.pow_zero,Nat.mod_one,Nat.mul_zero,Nat.mul_zero,Nat.add_zero],fun j _ hj=>HF0.out j hj,HGr0.out⟩
   case round=>
    obtain⟨k,F,hk,rfl,rfl,hbF,hF1,hF2,hGr⟩:=hrel;by_cases hlk:n+k<8
    ·have c1:=B2 hbF hlk;rw[hF2 _ (Ua _) hlk]at c1;have c2:=B2 (HB.out.1.keep hGr (by omega)) hlt;rw[←HA.out]at c2;have c3:=B2 (HB.out.2.1.keep hGr (by omega)) (j:=k) (by omega);have HS:=UX (UZ (Mx O A' b n k) (NQ O A' b n k));have d1:=Fm O (n+k);have d2:=Fm b k;have d3:=RJ O A' b n k;have HF:=UX (UZ hF1 hF2);clear hF1 hF2;generalize M7 O A' b n k=c at*;generalize dg O (n+k)=O' at*;generalize dg b k=B' at*;have hz:=Nat.mul_le_mul (Nat.le_of_lt_succ hAl) (Nat.le_of_lt_succ d2);have e0:((A':Int)*(B':Int))=((A'*B':Nat):Int):=(Um _ _).symm;generalize A'*B'=z at*;generalize hs:c+O'+z=s at*;have hsb:s<18446744073709551616:=by omega
     have m1:=Oh s;have m2:=PH s;have m3:IntKind.u64.wrap ((s/4294967296:Nat):Int)=((s/4294967296:Nat):Int):=AH _ (by omega);generalize s%4294967296=r at*;generalize s/4294967296=q at*;have e1:IntKind.u64.wrap ((c:Int)+(O':Int))=(c:Int)+(O':Int):=BB _ (by omega) (by omega);have e2:IntKind.u64.wrap ((z:Int))=(z:Int):=AH _ (by omega);have e3:IntKind.u64.wrap ((c:Int)+(O':Int)+(z:Int))=(c:Int)+(O':Int)+(z:Int):=BB _ (by omega) (by omega);have e4:IntKind.i64.wrap ((n:Int)+(k:Int))=(n:Int)+(k:Int):=IntWalk.i64_in _ (by omega);have t0:decide ((n:Int)+(k:Int)<8)=true:=by simp;omega
     go_wp2_with fail;go_quiet (fail);rw[show(c:Int)+(O':Int)+(z:Int)=(s:Int)from by omega];have hb5:=hbF.drewN nq;have hG5:=V1 hGr nq;generalize wr.drewN nq=w5 at*;clear hbF hGr c1 c2 c3 e0 e1 e2 e3 hs hz d1 d2 d3;go_wp2_with(refine SI (.tmp 39) (.tmp 38) (w.heap.size+1+1+1) F (n+k) r hlk 147 rfl rfl rfl rfl hb5 ?_;intro w6 hb6 k6;have hG6:=A4.trans hG5 k6);go_roundw
     case rel=>
      refine⟨k+1,I6 F (n+k) r,by omega,by go_num,by rw[HS.out.1],hb6,fun j hj=>?_,fun j hj hj8=>?_,hG6⟩
      ·unfold I6;by_cases hjk:j=n+k
       ·rw[Uo hjk,hjk,HS.out.2]
       rw[Un hjk,HF.out.1 j (by omega),NC _ _ _ _ _ _ (by omega)]
      unfold I6;rw[Un (by omega),HF.out.2 j (by omega) hj8]
     case measure=>simp[intOf];omega
    have t0:decide ((n:Int)+(k:Int)<8)=false:=by simp;omega
    have HK:=UX (show k=8-n from by omega);have HF:=UX hF1;clear hF1 hF2;go_wp2_with fail;go_roundw
    case rel=>
     refine⟨n+1,F,by omega,by go_num,hbF,fun j hj=>?_,hGr⟩;have hk8:=HK.out;rw[HF.out j (by omega),hk8,HO.out,HA.out];exact Qd a b n j (by omega) hj
    case measure=>simp[intOf];omega
  obtain rfl:n=8:=by omega
  have HL:Hid (AI F0=AI (dg (a*b))):=UX (Dm fun i hi=>by rw[hF0 i hi,H8.out]);rw[HL.out]at hbF0;have hbR:=HB.out.2.2.1.keep hGr0 (by omega);clear hF0 hlt hn;go_wp2_with(first|(refine lN (.tmp 5) hbF0 rN ?_)|(refine sN (.tmp 4) (.tmp 42) (AI (dg (a*b))) hbR rN ?_;intro w5 hb5 k5 d5)|fail);refine rO rN hb5 ?_;exact⟨rfl,Uw (Uw HB.out.2.2.2.2 hGr0 (fun i hi e=>by omega)) k5 (fun i hi e=>by omega)⟩
theorem Ep {n d:Int} (h:Dy n d=true):n.natAbs≤1073741824∧d≤1073741824:=by simpa[Dy]using h
theorem Hd {a b:Int} {m k:Nat} (ha:a.natAbs≤m) (hb:b.natAbs≤k):(a*b).natAbs≤m*k:=by
 rw[Int.natAbs_mul];exact Nat.mul_le_mul ha hb
theorem Kl {n d:Int} (hd:0<d) (h1:n≠ -9223372036854775808):EZ n d=Cz n d.toNat:=by
 unfold EZ;rw[Un (by omega),Un (by omega),Un (by omega),show d.natAbs=d.toNat from by omega]
theorem IX (n1 d1 n2 d2:Int) (w:World) (hn1:Ah n1) (hd1:Ah d1) (hn2:Ah n2) (hd2:Ah d2):Calls Tryz.prog 115 #[.agg (AA n1 d1).toArray,.agg (AA n2 d2).toArray] w fun e w'=>e= .returned (BS (DE n1 d1 n2 d2))∧A5 w w':=by
 obtain⟨hb1,hb2,hb3,hG3⟩:=BO w 24 24 24 (AA n1 d1).toArray (AA n2 d2).toArray (AA 0 0).toArray;have HV1:=UX (fun w'=>C7 n1 d1 w' hn1 hd1);have HV2:=UX (fun w'=>C7 n2 d2 w' hn2 hd2);obtain⟨v1,hv1⟩:∃v:Bool,AU n1 d1=v:=⟨_,rfl⟩;obtain⟨v2,hv2⟩:∃v:Bool,AU n2 d2=v:=⟨_,rfl⟩;rw[hv1]at HV1;rw[hv2]at HV2;go_enter Tryz.func115,Tryz.ntmps115;go_upto_region 1 with fail;change Code.wp _ _ _ _ (((w.alloc (.cells (AA n1 d1).toArray 24)).alloc (.cells (AA n2 d2).toArray 24)).alloc (.cells (AA 0 0).toArray 24));generalize ((w.alloc (.cells (AA n1 d1).toArray 24)).alloc (.cells (AA n2 d2).toArray 24)).alloc (.cells (AA 0 0).toArray 24)=w3 at*;go_upto_region 2 with(first|(refine lN (.tmp 2) hb1 rF ?_)|(go_at_call 102;refine(HV1.out _).mono ?_;rintro e w4 ⟨rfl,k4⟩;have hc1:=hb1.grew k4;have hc2:=hb2.grew k4;have hc3:=hb3.grew k4;have hG4:=hG3.trans k4)|fail);clear hb1 hb2 hb3 hG3 k4;go_upto_region 3 with(first|(refine lN (.tmp 3) hc2 rF ?_)|(go_at_call 102;refine(HV2.out _).mono ?_;rintro e w5 ⟨rfl,k5⟩;have he1:=hc1.grew k5;have he2:=hc2.grew k5;have he3:=hc3.grew k5;have hG5:=hG4.trans k5)|fail);clear hc1 hc2 hc3 hG4 k5 HV1 HV2;cases v1
 ·have HB:=UX (GY (n2:=n2) (d2:=d2) (.inl hv1));clear hv1 hv2;go_wp2_with(first|(refine sN (.tmp 4) (.tmp 19) (AA 0 0) he3 rF ?_;intro w8 hb8 k8 d8)|fail);refine rT rF hb8 ?_;rw[HB.out];exact⟨rfl,Uw hG5 k8 (fun i hi e=>by omega)⟩
 cases v2
 ·have HB:=UX (GY (n1:=n1) (d1:=d1) (.inr hv2));clear hv1 hv2;go_wp2_with(first|(refine sN (.tmp 4) (.tmp 19) (AA 0 0) he3 rF ?_;intro w8 hb8 k8 d8)|fail);refine rT rF hb8 ?_;rw[HB.out];exact⟨rfl,Uw hG5 k8 (fun i hi e=>by omega)⟩
 have HVV:=UX (UZ hv1 hv2);obtain⟨a1,a2,a3,a4,a5⟩:=B8 hv1;obtain⟨b1,b2,b3,b4,b5⟩:=B8 hv2;clear hv1 hv2 a5 b5;obtain⟨p,rfl⟩:∃p:Nat,d1=(p:Int):=⟨d1.toNat,by omega⟩;obtain⟨q,rfl⟩:∃q:Nat,d2=(q:Int):=⟨d2.toNat,by omega⟩;obtain⟨s1,hs1⟩:∃v:Bool,Dy n1 p=v:=⟨_,rfl⟩;obtain⟨s2,hs2⟩:∃v:Bool,Dy n2 q=v:=⟨_,rfl⟩;have HS1:=UX (fun w'=>Ed n1 p w' hn1);have HS2:=UX (fun w'=>Ed n2 q w' hn2);rw[hs1]at HS1;rw[hs2]at HS2;go_upto_region 6 with(first|(refine lN (.tmp 2) he1 rF ?_)|(go_at_call 137;refine(HS1.out _).mono ?_;rintro e w6 ⟨rfl,k6⟩;have hf1:=he1.grew k6;have hf2:=he2.grew k6;have hf3:=he3.grew k6;have hG6:=hG5.trans k6)|fail);clear he1 he2 he3 hG5 k6;go_upto_region 7 with(first|(refine lN (.tmp 3) hf2 rF ?_)|(go_at_call 137;refine(HS2.out _).mono ?_;rintro e w7 ⟨rfl,k7⟩;have h1:=hf1.grew k7;have h2:=hf2.grew k7;have h3:=hf3.grew k7;have hG7:=hG6.trans k7)|fail);clear hf1 hf2 hf3 hG6 k7 HS1 HS2;have c1:w7.cell? ⟨w.heap.size,0,none⟩=some (.int .i64 n1):=h1.cell 0;have c2:w7.cell? ⟨w.heap.size,1,none⟩=some (.int .i64 (p:Int)):=h1.cell 1;have c3:w7.cell? ⟨w.heap.size+1,0,none⟩=some (.int .i64 n2):=h2.cell 0;have c4:w7.cell? ⟨w.heap.size+1,1,none⟩=some (.int .i64 (q:Int)):=h2.cell 1;have HF:Hid (DE n1 p n2 q=Cz (n1*n2) (p*q)):=UX (by
  unfold DE;rw[Uo HVV.out,show((p:Int)*(q:Int)).toNat=p*q from by rw[←Um];rfl])
 by_cases hss:s1=true∧s2=true
 ·obtain⟨rfl,rfl⟩:=hss;obtain⟨l1,l2⟩:=Ep hs1;obtain⟨l3,l4⟩:=Ep hs2;have m1:=Hd l1 l3;have m2:=Nat.mul_le_mul (show p≤1073741824 by omega) (show q≤1073741824 by omega);have m3:0<p*q:=Nat.mul_pos (by omega) (by omega);have e0:(p:Int)*(q:Int)=((p*q:Nat):Int):=(Um _ _).symm;have hnew:=Kl (n:=n1*n2) (d:=((p*q:Nat):Int)) (by omega) (by omega);rw[Int.toNat_natCast]at hnew;rw[←hnew]at HF;clear hnew;generalize hz:n1*n2=z at*;generalize p*q=m at*;have HN:=UX (fun w'=>Iz z (m:Int) w' ⟨by omega,by omega⟩ ⟨by omega,by omega⟩);obtain⟨⟨x,y,er⟩,hp⟩:∃r,EZ z m=r:=⟨_,rfl⟩;rw[hp]at HF HN;simp only[BS]at HN;have e1:IntKind.i64.wrap z=z:=IntWalk.i64_in _ (by omega);have e2:IntKind.i64.wrap (m:Int)=(m:Int):=IntWalk.i64_in _ (by omega);clear hp m1 m2 m3 l1 l2 l3 l4 hs1 hs2 HVV hn1 hn2 hd1 hd2 a1 a2 a3 a4 b1 b2 b3 b4;go_wp2_with(first|(go_at_call 133;refine(HN.out _).mono ?_;rintro e w8 ⟨rfl,k8⟩;have g3:=h3.grew k8;have hG8:=hG7.trans k8)|(refine sN (.tmp 4) (.tmp 39) (AA x y) g3 rF ?_;intro w9 hb9 k9 d9)|fail);refine rT rF hb9 ?_;rw[HF.out];exact⟨rfl,Uw hG8 k9 (fun i hi e=>by omega)⟩
 have HZ1:=UX (fun w'=>Eg n1 w' hn1);have HZ2:=UX (fun w'=>Eg n2 w' hn2);have hx1:n1.natAbs≤4611686018427387904:=by omega
 have hx2:n2.natAbs≤4611686018427387904:=by omega
 obtain⟨x1,hx1e⟩:∃x,n1.natAbs=x:=⟨_,rfl⟩;obtain⟨x2,hx2e⟩:∃x,n2.natAbs=x:=⟨_,rfl⟩;rw[hx1e]at hx1 HZ1;rw[hx2e]at hx2 HZ2;have HF1:=UX (fun w'=>Cr x1 w' (by omega));have HF2:=UX (fun w'=>Cr x2 w' (by omega));have HT:=UX (fun w'=>EI x1 x2 w' (by omega));clear hs1 hs2;have hx12:x1*x2<2^255:=by
  have:=Nat.mul_le_mul hx1 hx2;omega
 have hpq:p*q<2^255:=by
  have:=Nat.mul_le_mul (show p≤4611686018427387904 by omega) (show q≤4611686018427387904 by omega);omega
 have hpq0:0<p*q:=Nat.mul_pos (by omega) (by omega);obtain⟨sa,hsa⟩:∃s:Bool,decide (n1<0)=s:=⟨_,rfl⟩;obtain⟨sb,hsb⟩:∃s:Bool,decide (n2<0)=s:=⟨_,rfl⟩;have hpr:=(MC n1 n2).symm;rw[hsa,hsb,hx1e,hx2e]at hpr;have HL:=UX (fun w'=>Ch (sa !=sb) (x1*x2) (p*q) (n1*n2) w' hx12 hpq hpq0 hpr);have HP:=UX (fun w'=>Cr p w' (by omega));have HQ:=UX (fun w'=>Cr q w' (by omega));have HT2:=UX (fun w'=>EI p q w' (by omega));obtain⟨⟨x,y,er⟩,hred⟩:∃r,Cz (n1*n2) (p*q)=r:=⟨_,rfl⟩;rw[hred]at HF HL;simp only[BS]at HL;have wp1:IntKind.u64.wrap (p:Int)=(p:Int):=AH _ (by omega);have wq1:IntKind.u64.wrap (q:Int)=(q:Int):=AH _ (by omega);clear hpr hred hx12 hpq hpq0 hx1e hx2e hx1 hx2 c1 c2 c3 c4 hn1 hn2 hd1 hd2 a1 a2 a3 a4 b1 b2 b3 b4;cases s1
 ·clear hss;go_upto_region 9 with fail;have HS:=UX (show ∀w',A5 w7.drew w'→w'.cell? ⟨w.heap.size,0,none⟩=some (.int .i64 n1)∧w'.cell? ⟨w.heap.size+1,0,none⟩=some (.int .i64 n2)from fun w' g=>⟨((h1.drewN 1).grew g).cell 0,((h2.drewN 1).grew g).cell 0⟩);refine BU (by kernel_rfl) 10 9 8 [.pointer (some ⟨w.heap.size,0,none⟩),.int .i64 n1,.int .u64 (x1:Int),Ar x1,.pointer (some ⟨w.heap.size+1,0,none⟩),.int .i64 n2,.int .u64 (x2:Int),Ar x2,Ar (x1*x2),undef] 147 (AI (fun _=>0)) _ (by kernel_rfl) (by kernel_rfl) (by decide) (by rfl) rfl (Ui (by kernel_rfl)) (by kernel_rfl) ?hH1 ?hal1 (AI (dg (x1*x2))) (.tmp 8) (.tmp 49) 147 _ rfl rfl rfl rfl CG rfl (Ap _) (fun z=>by kernel_rfl) (fun z=>by kernel_rfl) (by kernel_rfl) (by kernel_rfl) ?hT1
  case hH1=>
   simp only[ny];refine hQ (AC (fun z w' hg=>?_) ?_)
   ·obtain⟨c1,c2⟩:=HS.out _ hg;go_simp;exact Uv _
   refine AC (fun z w' hg=>?_) ?_
   ·go_simp;(with_reducible refine(HZ1.out _).mono ?_);rintro e wq ⟨rfl,rfl⟩;exact⟨rfl,Uv _⟩
   refine Dc (fun w' hg=>HF1.out _) (hQ (AC (fun z w' hg=>?_) ?_))
   ·obtain⟨c1,c2⟩:=HS.out _ hg;go_simp;exact Uv _
   refine AC (fun z w' hg=>?_) ?_
   ·go_simp;(with_reducible refine(HZ2.out _).mono ?_);rintro e wq ⟨rfl,rfl⟩;exact⟨rfl,Uv _⟩
   exact Dc (fun w' hg=>HF2.out _) (Dc (fun w' hg=>HT.out _) (BV Aj))
  case hal1=>
   intro o ho a1 w1 K hK;obtain rfl:=Uf ho;go_simp;exact hK _ rfl
  case hT1=>
   intro z wz hz hbz hgz;simp only[ny];have e1:=h1.grew hgz;have e2:=h2.grew hgz;have e3:=h3.grew hgz;have hGz:=hG7.trans hgz;have HSz:=UX (show ∀w',A5 wz.drew w'→w'.cell? ⟨w.heap.size,0,none⟩=some (.int .i64 n1)∧w'.cell? ⟨w.heap.size,1,none⟩=some (.int .i64 (p:Int))∧w'.cell? ⟨w.heap.size+1,0,none⟩=some (.int .i64 n2)∧w'.cell? ⟨w.heap.size+1,1,none⟩=some (.int .i64 (q:Int))∧AK w' z 147 (AI (dg (x1*x2))).toArray from fun w' g=>⟨((e1.drewN 1).grew g).cell 0,((e1.drewN 1).grew g).cell 1,((e2.drewN 1).grew g).cell 0,((e2.drewN 1).grew g).cell 1,(hbz.drewN 1).grew g⟩);clear e1 e2 hbz hgz HS;generalize hzz:z=zz at*;clear hzz;go_upto_region 10 with fail;refine C8 (by kernel_rfl) 20 [.pointer (some ⟨w.heap.size,0,none⟩),.int .i64 n1,.bool sa,.pointer (some ⟨w.heap.size+1,0,none⟩),.int .i64 n2,.bool sb,.bool (sa !=sb),Ar (x1*x2),.pointer (some ⟨w.heap.size,1,none⟩),.int .i64 (p:Int),.int .u64 (p:Int),Ar p,.pointer (some ⟨w.heap.size+1,1,none⟩),.int .i64 (q:Int),.int .u64 (q:Int),Ar q,Ar (p*q),.tuple #[.agg (AA x y).toArray,.int .i64 er],.agg (AA x y).toArray,.int .i64 er] _ (by kernel_rfl) (by kernel_rfl) (by kernel_rfl) rfl ?kH2 5 _ _ rfl rfl rfl rfl rfl (.int .i64 er) ?kV2 24 (.tmp 4) (.tmp 68) (w.heap.size+1+1) (AA x y) (AA 0 0) 24 rfl rfl C1 rfl (BP _ _) (by kernel_rfl) (by kernel_rfl) (by kernel_rfl) (by kernel_rfl) (by kernel_rfl) e3 ?kT2
   case kH2=>
    simp only[ny];refine hQ (AC (fun z w' hg=>?_) ?_)
    ·obtain⟨c1,c2,c3,c4,c5⟩:=HSz.out _ hg;go_simp;exact Uv _
    refine hQ (hQ (AC (fun z w' hg=>?_) ?_))
    ·obtain⟨c1,c2,c3,c4,c5⟩:=HSz.out _ hg;go_simp;exact Uv _
    refine hQ (AC (fun z w' hg=>?_) ?_)
    ·go_simp;exact⟨by cases sa<;>cases sb<;>rfl,Uv _⟩
    refine AC (fun z w' hg=>?_) ?_
    ·obtain⟨c1,c2,c3,c4,c5⟩:=HSz.out _ hg;exact mB (.tmp 8) c5 rN ⟨rfl,Uv _⟩
    refine hQ (AC (fun z w' hg=>?_) ?_)
    ·obtain⟨c1,c2,c3,c4,c5⟩:=HSz.out _ hg;go_simp;exact Uv _
    refine hQ (Dc (fun w' hg=>HP.out _) (hQ (AC (fun z w' hg=>?_) ?_)))
    ·obtain⟨c1,c2,c3,c4,c5⟩:=HSz.out _ hg;go_simp;exact Uv _
    exact hQ (Dc (fun w' hg=>HQ.out _) (Dc (fun w' hg=>HT2.out _) (Dc (fun w' hg=>HL.out _) (hQ (hQ Aj)))))
   case kV2=>
    intro w';simp only[ny];go_simp
   case kT2=>
    intro wa wb hga hbb hkb;dsimp only;simp only[ny];have hGb:=hGz.trans hga;go_wp2_with fail;refine rT rF hbb ?_;rw[HF.out];exact⟨rfl,Uw hGb hkb (fun i hi e=>by omega)⟩
 cases s2
 ·clear hss;go_upto_region 9 with fail;have HS:=UX (show ∀w',A5 w7.drew w'→w'.cell? ⟨w.heap.size,0,none⟩=some (.int .i64 n1)∧w'.cell? ⟨w.heap.size+1,0,none⟩=some (.int .i64 n2)from fun w' g=>⟨((h1.drewN 1).grew g).cell 0,((h2.drewN 1).grew g).cell 0⟩);refine BU (by kernel_rfl) 10 9 8 [.pointer (some ⟨w.heap.size,0,none⟩),.int .i64 n1,.int .u64 (x1:Int),Ar x1,.pointer (some ⟨w.heap.size+1,0,none⟩),.int .i64 n2,.int .u64 (x2:Int),Ar x2,Ar (x1*x2),undef] 147 (AI (fun _=>0)) _ (by kernel_rfl) (by kernel_rfl) (by decide) (by rfl) rfl (Ui (by kernel_rfl)) (by kernel_rfl) ?hHz1 ?halz1 (AI (dg (x1*x2))) (.tmp 8) (.tmp 49) 147 _ rfl rfl rfl rfl CG rfl (Ap _) (fun z=>by kernel_rfl) (fun z=>by kernel_rfl) (by kernel_rfl) (by kernel_rfl) ?hTz1
  case hHz1=>
   simp only[ny];refine hQ (AC (fun z w' hg=>?_) ?_)
   ·obtain⟨c1,c2⟩:=HS.out _ hg;go_simp;exact Uv _
   refine AC (fun z w' hg=>?_) ?_
   ·go_simp;(with_reducible refine(HZ1.out _).mono ?_);rintro e wq ⟨rfl,rfl⟩;exact⟨rfl,Uv _⟩
   refine Dc (fun w' hg=>HF1.out _) (hQ (AC (fun z w' hg=>?_) ?_))
   ·obtain⟨c1,c2⟩:=HS.out _ hg;go_simp;exact Uv _
   refine AC (fun z w' hg=>?_) ?_
   ·go_simp;(with_reducible refine(HZ2.out _).mono ?_);rintro e wq ⟨rfl,rfl⟩;exact⟨rfl,Uv _⟩
   exact Dc (fun w' hg=>HF2.out _) (Dc (fun w' hg=>HT.out _) (BV Aj))
  case halz1=>
   intro o ho a1 w1 K hK;obtain rfl:=Uf ho;go_simp;exact hK _ rfl
  case hTz1=>
   intro z wz hz hbz hgz;simp only[ny];have e1:=h1.grew hgz;have e2:=h2.grew hgz;have e3:=h3.grew hgz;have hGz:=hG7.trans hgz;have HSz:=UX (show ∀w',A5 wz.drew w'→w'.cell? ⟨w.heap.size,0,none⟩=some (.int .i64 n1)∧w'.cell? ⟨w.heap.size,1,none⟩=some (.int .i64 (p:Int))∧w'.cell? ⟨w.heap.size+1,0,none⟩=some (.int .i64 n2)∧w'.cell? ⟨w.heap.size+1,1,none⟩=some (.int .i64 (q:Int))∧AK w' z 147 (AI (dg (x1*x2))).toArray from fun w' g=>⟨((e1.drewN 1).grew g).cell 0,((e1.drewN 1).grew g).cell 1,((e2.drewN 1).grew g).cell 0,((e2.drewN 1).grew g).cell 1,(hbz.drewN 1).grew g⟩);clear e1 e2 hbz hgz HS;generalize hzz:z=zz at*;clear hzz;go_upto_region 10 with fail;refine C8 (by kernel_rfl) 20 [.pointer (some ⟨w.heap.size,0,none⟩),.int .i64 n1,.bool sa,.pointer (some ⟨w.heap.size+1,0,none⟩),.int .i64 n2,.bool sb,.bool (sa !=sb),Ar (x1*x2),.pointer (some ⟨w.heap.size,1,none⟩),.int .i64 (p:Int),.int .u64 (p:Int),Ar p,.pointer (some ⟨w.heap.size+1,1,none⟩),.int .i64 (q:Int),.int .u64 (q:Int),Ar q,Ar (p*q),.tuple #[.agg (AA x y).toArray,.int .i64 er],.agg (AA x y).toArray,.int .i64 er] _ (by kernel_rfl) (by kernel_rfl) (by kernel_rfl) rfl ?kHz2 5 _ _ rfl rfl rfl rfl rfl (.int .i64 er) ?kVz2 24 (.tmp 4) (.tmp 68) (w.heap.size+1+1) (AA x y) (AA 0 0) 24 rfl rfl C1 rfl (BP _ _) (by kernel_rfl) (by kernel_rfl) (by kernel_rfl) (by kernel_rfl) (by kernel_rfl) e3 ?kTz2
   case kHz2=>
    simp only[ny];refine hQ (AC (fun z w' hg=>?_) ?_)
    ·obtain⟨c1,c2,c3,c4,c5⟩:=HSz.out _ hg;go_simp;exact Uv _
    refine hQ (hQ (AC (fun z w' hg=>?_) ?_))
    ·obtain⟨c1,c2,c3,c4,c5⟩:=HSz.out _ hg;go_simp;exact Uv _
    refine hQ (AC (fun z w' hg=>?_) ?_)
    ·go_simp;exact⟨by cases sa<;>cases sb<;>rfl,Uv _⟩
    refine AC (fun z w' hg=>?_) ?_
    ·obtain⟨c1,c2,c3,c4,c5⟩:=HSz.out _ hg;exact mB (.tmp 8) c5 rN ⟨rfl,Uv _⟩
    refine hQ (AC (fun z w' hg=>?_) ?_)
    ·obtain⟨c1,c2,c3,c4,c5⟩:=HSz.out _ hg;go_simp;exact Uv _
    refine hQ (Dc (fun w' hg=>HP.out _) (hQ (AC (fun z w' hg=>?_) ?_)))
    ·obtain⟨c1,c2,c3,c4,c5⟩:=HSz.out _ hg;go_simp;exact Uv _
    exact hQ (Dc (fun w' hg=>HQ.out _) (Dc (fun w' hg=>HT2.out _) (Dc (fun w' hg=>HL.out _) (hQ (hQ Aj)))))
   case kVz2=>
    intro w';simp only[ny];go_simp
   case kTz2=>
    intro wa wb hga hbb hkb;dsimp only;simp only[ny];have hGb:=hGz.trans hga;go_wp2_with fail;refine rT rF hbb ?_;rw[HF.out];exact⟨rfl,Uw hGb hkb (fun i hi e=>by omega)⟩
 exact absurd ⟨rfl,rfl⟩ hss
end Go.Proofs.YtkclnhpofkaclaaGreatDoor
