/- What the card of the law stands on: RDiv, RApp, FoldPl, ValPl, RowR, TreeB. -/
import Derived.Test.YtkclnhpofkaclaaGreatDoorRewriteFoldP01
import Derived.Test.YtkclnhpofkaclaaGreatDoorRewriteFoldP09
import Derived.Test.YtkclnhpofkaclaaGreatDoorRewriteFoldP02
set_option maxRecDepth 100000
set_option maxHeartbeats 12800000
set_option linter.unusedVariables false
set_option linter.unusedSimpArgs false
namespace Go.Proofs.YtkclnhpofkaclaaGreatDoor
open Go.RowKit Pl
theorem QH (n1 d1 n2 d2:Int) (w:World) (hn1:Ah n1) (hd1:Ah d1) (hn2:Ah n2) (hd2:Ah d2):Calls Tryz.prog 114 #[.agg (AA n1 d1).toArray,.agg (AA n2 d2).toArray] w fun e w'=>e= .returned (BS (GA n1 d1 n2 d2))∧A5 w w':=by
 obtain⟨hb1,hb2,hb3,hG3⟩:=BO w 24 24 24 (AA n1 d1).toArray (AA n2 d2).toArray (AA 0 0).toArray;have HV2:=UX (fun w'=>C7 n2 d2 w' hn2 hd2);obtain⟨v2,hv2⟩:∃v:Bool,AU n2 d2=v:=⟨_,rfl⟩;rw[hv2]at HV2;go_enter Tryz.func114,Tryz.ntmps114;go_upto_region 1 with fail;change Code.wp _ _ _ _ (((w.alloc (.cells (AA n1 d1).toArray 24)).alloc (.cells (AA n2 d2).toArray 24)).alloc (.cells (AA 0 0).toArray 24));generalize ((w.alloc (.cells (AA n1 d1).toArray 24)).alloc (.cells (AA n2 d2).toArray 24)).alloc (.cells (AA 0 0).toArray 24)=w3 at*;go_upto_region 2 with(first|(refine lN (.tmp 3) hb2 rF ?_)|(go_at_call 102;(with_reducible refine(HV2.out _).mono ?_);rintro e w4 ⟨rfl,k4⟩;have hc1:=hb1.grew k4;have hc2:=hb2.grew k4;have hc3:=hb3.grew k4;have hG4:=hG3.trans k4)|fail);clear hb1 hb2 hb3 hG3 k4 HV2;have HR:=UX (ML n1 d1 n2 d2);rw[hv2]at HR;cases v2
 ·have HB:Hid (GA n1 d1 n2 d2=(0,0,1)):=UX HR.out.symm;clear hv2;go_wp2_with(first|(refine sN (.tmp 4) (.tmp 11) (AA 0 0) hc3 rF ?_;intro w8 hb8 k8 d8)|fail);refine rT rF hb8 ?_;rw[HB.out];exact⟨rfl,Uw hG4 k8 (fun i hi e=>by omega)⟩
 obtain⟨b1,b2,b3,b4,b5⟩:=B8 hv2;have HA:=UX (fun w'=>LA n1 d1 (-n2) d2 w' hn1 hd1 ⟨by omega,by omega⟩ hd2);obtain⟨⟨x,y,er⟩,hp⟩:∃r,DQ n1 d1 (-n2) d2=r:=⟨_,rfl⟩;have HB:Hid (GA n1 d1 n2 d2=(x,y,er)):=UX (by rw[←hp];exact HR.out.symm);rw[hp]at HA;simp only[BS]at HA;have e1:IntKind.i64.wrap (-n2)= -n2:=IntWalk.i64_in _ (by omega);have c1:w4.cell? ⟨w.heap.size+1,0,none⟩=some (.int .i64 n2):=hc2.cell 0;have c2:w4.cell? ⟨w.heap.size+1,1,none⟩=some (.int .i64 d2):=hc2.cell 1;clear hv2 b1 b2 b3 b4 b5 hp;go_wp2_with(first|(refine lN (.tmp 2) hc1 rF ?_)|(go_at_call 113;refine(HA.out _).mono ?_;rintro e w5 ⟨rfl,k5⟩;have hd3:=hc3.grew k5;have hG5:=hG4.trans k5)|(refine sN (.tmp 4) (.tmp 20) (AA x y) hd3 rF ?_;intro w8 hb8 k8 d8)|fail);refine rT rF hb8 ?_;rw[HB.out];exact⟨rfl,Uw hG5 k8 (fun i hi e=>by omega)⟩
theorem Pp (n1 d1 n2 d2:Int) (w:World) (hn1:Ah n1) (hd1:Ah d1) (hn2:Ah n2) (hd2:Ah d2):Calls Tryz.prog 116 #[.agg (AA n1 d1).toArray,.agg (AA n2 d2).toArray] w fun e w'=>e= .returned (BS (GL n1 d1 n2 d2))∧A5 w w':=by
 obtain⟨hb1,hb2,hb3,hG3⟩:=BO w 24 24 24 (AA n1 d1).toArray (AA n2 d2).toArray (AA 0 0).toArray;have HV1:=UX (fun w'=>C7 n1 d1 w' hn1 hd1);have HV2:=UX (fun w'=>C7 n2 d2 w' hn2 hd2);obtain⟨v1,hv1⟩:∃v:Bool,AU n1 d1=v:=⟨_,rfl⟩;obtain⟨v2,hv2⟩:∃v:Bool,AU n2 d2=v:=⟨_,rfl⟩;rw[hv1]at HV1;rw[hv2]at HV2;go_enter Tryz.func116,Tryz.ntmps116;go_upto_region 1 with fail;change Code.wp _ _ _ _ (((w.alloc (.cells (AA n1 d1).toArray 24)).alloc (.cells (AA n2 d2).toArray 24)).alloc (.cells (AA 0 0).toArray 24));generalize ((w.alloc (.cells (AA n1 d1).toArray 24)).alloc (.cells (AA n2 d2).toArray 24)).alloc (.cells (AA 0 0).toArray 24)=w3 at*;go_upto_region 2 with(first|(refine lN (.tmp 2) hb1 rF ?_)|(go_at_call 102;with_reducible refine(HV1.out _).mono ?_;rintro e w4 ⟨rfl,k4⟩;have hc1:=hb1.grew k4;have hc2:=hb2.grew k4;have hc3:=hb3.grew k4;have hG4:=hG3.trans k4)|fail);clear hb1 hb2 hb3 hG3 k4;go_upto_region 3 with(first|(refine lN (.tmp 3) hc2 rF ?_)|(go_at_call 102;with_reducible refine(HV2.out _).mono ?_;rintro e w5 ⟨rfl,k5⟩;have he1:=hc1.grew k5;have he2:=hc2.grew k5;have he3:=hc3.grew k5;have hG5:=hG4.trans k5)|fail);clear hc1 hc2 hc3 hG4 k5 HV1 HV2;cases v1
 ·have HB:=UX (GX (n2:=n2) (d2:=d2) (.inl hv1));clear hv1 hv2;go_wp2_with(first|(refine sN (.tmp 4) (.tmp 18) (AA 0 0) he3 rF ?_;intro w8 hb8 k8 d8)|fail);refine rT rF hb8 ?_;rw[HB.out];exact⟨rfl,Uw hG5 k8 (fun i hi e=>by omega)⟩
 cases v2
 ·have HB:=UX (GX (n1:=n1) (d1:=d1) (.inr hv2));clear hv1 hv2;go_wp2_with(first|(refine sN (.tmp 4) (.tmp 18) (AA 0 0) he3 rF ?_;intro w8 hb8 k8 d8)|fail);refine rT rF hb8 ?_;rw[HB.out];exact⟨rfl,Uw hG5 k8 (fun i hi e=>by omega)⟩
 obtain⟨b1,b2,b3,b4,b5⟩:=B8 hv2;have c1:w5.cell? ⟨w.heap.size+1,0,none⟩=some (.int .i64 n2):=he2.cell 0;have c2:w5.cell? ⟨w.heap.size+1,1,none⟩=some (.int .i64 d2):=he2.cell 1;by_cases h0:n2=0
 ·have HB:=UX (JN hv1 hv2 h0);have t0:(n2==0)=true:=by simpa using h0
  clear hv1 hv2 h0 b1 b2 b3 b4 b5;go_wp2_with(first|(refine sN (.tmp 4) (.tmp 22) (AA 0 0) he3 rF ?_;intro w8 hb8 k8 d8)|fail);refine rT rF hb8 ?_;rw[HB.out];exact⟨rfl,Uw hG5 k8 (fun i hi e=>by omega)⟩
 have t0:(n2==0)=false:=by simpa using h0
 by_cases h1:n2<0
 ·have t1:decide (n2<0)=true:=by simpa using h1
  have HB:=UX (Kq hv1 hv2 h0 h1);have HM:=UX (fun w'=>IX n1 d1 (-d2) (-n2) w' hn1 hd1 ⟨by omega,by omega⟩ ⟨by omega,by omega⟩);have e1:IntKind.i64.wrap (-n2)= -n2:=IntWalk.i64_in _ (by omega);have e2:IntKind.i64.wrap (-d2)= -d2:=IntWalk.i64_in _ (by omega);obtain⟨⟨x,y,er⟩,hp⟩:∃r,DE n1 d1 (-d2) (-n2)=r:=⟨_,rfl⟩;rw[hp]at HB HM;simp only[BS]at HM;clear hv1 hv2 b1 b2 b3 b4 b5 hp h0 h1;go_wp2_with(first|(refine lN (.tmp 2) he1 rF ?_)|(go_at_call 115;refine(HM.out _).mono ?_;rintro e w6 ⟨rfl,k6⟩;have hd3:=he3.grew k6;have hG6:=hG5.trans k6)|(refine sN (.tmp 4) (.tmp 35) (AA x y) hd3 rF ?_;intro w8 hb8 k8 d8)|fail);refine rT rF hb8 ?_;rw[HB.out];exact⟨rfl,Uw hG6 k8 (fun i hi e=>by omega)⟩
 have t1:decide (n2<0)=false:=by simpa using h1
 have HB:=UX (Lz hv1 hv2 h0 h1);have HM:=UX (fun w'=>IX n1 d1 d2 n2 w' hn1 hd1 hd2 hn2);obtain⟨⟨x,y,er⟩,hp⟩:∃r,DE n1 d1 d2 n2=r:=⟨_,rfl⟩;rw[hp]at HB HM;simp only[BS]at HM;clear hv1 hv2 b1 b2 b3 b4 b5 hp h0 h1;go_wp2_with(first|(refine lN (.tmp 2) he1 rF ?_)|(go_at_call 115;refine(HM.out _).mono ?_;rintro e w6 ⟨rfl,k6⟩;have hd3:=he3.grew k6;have hG6:=hG5.trans k6)|(refine sN (.tmp 4) (.tmp 44) (AA x y) hd3 rF ?_;intro w8 hb8 k8 d8)|fail);refine rT rF hb8 ?_;rw[HB.out];exact⟨rfl,Uw hG6 k8 (fun i hi e=>by omega)⟩
def Bc (op n1 d1 n2 d2:Int):Int×Int×Int:=if op=0 then DQ n1 d1 n2 d2 else if op=1 then GA n1 d1 n2 d2 else if op=2 then DE n1 d1 n2 d2 else GL n1 d1 n2 d2
theorem OJ (op n1 d1 n2 d2:Int) (w:World) (hn1:Ah n1) (hd1:Ah d1) (hn2:Ah n2) (hd2:Ah d2):Calls Tryz.prog 75 #[.int .i64 op,.agg (AA n1 d1).toArray,.agg (AA n2 d2).toArray] w fun e w'=>e= .returned (BS (Bc op n1 d1 n2 d2))∧A5 w w':=by
 obtain⟨hb1,hb2,hb3,hG3⟩:=BO w 24 24 24 (AA n1 d1).toArray (AA n2 d2).toArray (AA 0 0).toArray;go_enter Tryz.func75,Tryz.ntmps75;go_upto_region 1 with fail;change Code.wp _ _ _ _ (((w.alloc (.cells (AA n1 d1).toArray 24)).alloc (.cells (AA n2 d2).toArray 24)).alloc (.cells (AA 0 0).toArray 24));generalize ((w.alloc (.cells (AA n1 d1).toArray 24)).alloc (.cells (AA n2 d2).toArray 24)).alloc (.cells (AA 0 0).toArray 24)=w3 at*;by_cases h0:op=0
 ·have t0:(op==0)=true:=by simpa using h0
  have HM:=UX (fun w'=>LA n1 d1 n2 d2 w' hn1 hd1 hn2 hd2);obtain⟨⟨x,y,er⟩,hp⟩:∃r,DQ n1 d1 n2 d2=r:=⟨_,rfl⟩;have HB:Hid (Bc op n1 d1 n2 d2=(x,y,er)):=UX (by unfold Bc;rw[Uo h0];exact hp);rw[hp]at HM;simp only[BS]at HM;clear hp hn1 hd1 hn2 hd2;clear h0;go_wp2_with(first|(refine lN (.tmp 4) hb1 rF ?_)|(refine lN (.tmp 5) hb2 rF ?_)|(go_at_call 113;refine(HM.out _).mono ?_;rintro e w6 ⟨rfl,k6⟩;have hd3:=hb3.grew k6;have hG6:=hG3.trans k6)|(refine sN (.tmp 6) (.tmp 14) (AA x y) hd3 rF ?_;intro w8 hb8 k8 d8)|fail);refine rT rF hb8 ?_;rw[HB.out];exact⟨rfl,Uw hG6 k8 (fun i hi e=>by omega)⟩
 have t0:(op==0)=false:=by simpa using h0
 by_cases h1:op=1
 ·have t1:(op==1)=true:=by simpa using h1
  have HM:=UX (fun w'=>QH n1 d1 n2 d2 w' hn1 hd1 hn2 hd2);obtain⟨⟨x,y,er⟩,hp⟩:∃r,GA n1 d1 n2 d2=r:=⟨_,rfl⟩;have HB:Hid (Bc op n1 d1 n2 d2=(x,y,er)):=UX (by unfold Bc;rw[Un h0,Uo h1];exact hp);rw[hp]at HM;simp only[BS]at HM;clear hp hn1 hd1 hn2 hd2;clear h0 h1;go_wp2_with(first|(refine lN (.tmp 4) hb1 rF ?_)|(refine lN (.tmp 5) hb2 rF ?_)|(go_at_call 114;refine(HM.out _).mono ?_;rintro e w6 ⟨rfl,k6⟩;have hd3:=hb3.grew k6;have hG6:=hG3.trans k6)|(refine sN (.tmp 6) (.tmp 21) (AA x y) hd3 rF ?_;intro w8 hb8 k8 d8)|fail);refine rT rF hb8 ?_;rw[HB.out];exact⟨rfl,Uw hG6 k8 (fun i hi e=>by omega)⟩
 have t1:(op==1)=false:=by simpa using h1
 by_cases h2:op=2
 ·have t2:(op==2)=true:=by simpa using h2
  have HM:=UX (fun w'=>IX n1 d1 n2 d2 w' hn1 hd1 hn2 hd2);obtain⟨⟨x,y,er⟩,hp⟩:∃r,DE n1 d1 n2 d2=r:=⟨_,rfl⟩;have HB:Hid (Bc op n1 d1 n2 d2=(x,y,er)):=UX (by unfold Bc;rw[Un h0,Un h1,Uo h2];exact hp);rw[hp]at HM;simp only[BS]at HM;clear hp hn1 hd1 hn2 hd2;clear h0 h1 h2;go_wp2_with(first|(refine lN (.tmp 4) hb1 rF ?_)|(refine lN (.tmp 5) hb2 rF ?_)|(go_at_call 115;refine(HM.out _).mono ?_;rintro e w6 ⟨rfl,k6⟩;have hd3:=hb3.grew k6;have hG6:=hG3.trans k6)|(refine sN (.tmp 6) (.tmp 28) (AA x y) hd3 rF ?_;intro w8 hb8 k8 d8)|fail);refine rT rF hb8 ?_;rw[HB.out];exact⟨rfl,Uw hG6 k8 (fun i hi e=>by omega)⟩
 have t2:(op==2)=false:=by simpa using h2
 have HM:=UX (fun w'=>Pp n1 d1 n2 d2 w' hn1 hd1 hn2 hd2);obtain⟨⟨x,y,er⟩,hp⟩:∃r,GL n1 d1 n2 d2=r:=⟨_,rfl⟩;have HB:Hid (Bc op n1 d1 n2 d2=(x,y,er)):=UX (by unfold Bc;rw[Un h0,Un h1,Un h2];exact hp);rw[hp]at HM;simp only[BS]at HM;clear hp hn1 hd1 hn2 hd2;clear h0 h1 h2;go_wp2_with(first|(refine lN (.tmp 4) hb1 rF ?_)|(refine lN (.tmp 5) hb2 rF ?_)|(go_at_call 116;refine(HM.out _).mono ?_;rintro e w6 ⟨rfl,k6⟩;have hd3:=hb3.grew k6;have hG6:=hG3.trans k6)|(refine sN (.tmp 6) (.tmp 33) (AA x y) hd3 rF ?_;intro w8 hb8 k8 d8)|fail);refine rT rF hb8 ?_;rw[HB.out];exact⟨rfl,Uw hG6 k8 (fun i hi e=>by omega)⟩
end Go.Proofs.YtkclnhpofkaclaaGreatDoor
namespace Go.Proofs.YtkclnhpofkaclaaGreatDoor
open Pl
mutual
def Aw (p:Ex→Prop):Ex→Prop
 | .mk k f w o q n d nm ms bs ks=>p (.mk k f w o q n d nm ms bs ks)∧Kh p ks
def Kh (p:Ex→Prop):List Ex→Prop
 |[]=>True
 |e::es=>Aw p e∧Kh p es
end
theorem JZ {p:Ex→Prop}:∀{es:List Ex},Kh p es↔∀e∈es,Aw p e
 |[]=>by unfold Kh;simp
 |e::es=>by unfold Kh;rw[JZ];simp
theorem Aa {p:Ex→Prop} {e:Ex}:Aw p e↔p e∧∀k∈e.kids,Aw p k:=by
 cases e;rw[Aw,JZ];rfl
theorem Aw.top {p:Ex→Prop} {e:Ex} (h:Aw p e):p e:=(Aa.1 h).1
theorem Aw.kid {p:Ex→Prop} {e k:Ex} (h:Aw p e) (hk:k∈e.kids):Aw p k:=(Aa.1 h).2 k hk
theorem Aw.mono {p q:Ex→Prop} (hpq:∀e,p e→q e):∀(n:Nat) (e:Ex),AD e≤n→Aw p e→Aw q e
 |0,e,h,_=>absurd (AZ e) (by omega)
 |n+1,e,h,hp=>Aa.2 ⟨hpq e hp.top,fun k hk=>Aw.mono hpq n k (by
   have h1:=AT hk;have h2:AD e=1+AO e.kids:=by cases e;rw[AD];rfl
   omega) (hp.kid hk)⟩
def DX (e:Ex):Prop:=Ah e.kind∧Ah e.fn∧Ah e.window∧Ah e.offset∧Ah e.k∧Ah e.num∧Ah e.den
def RL (e:Ex):Prop:=e.kind=3→e.kids.length=2∧0≤e.fn∧e.fn≤3
def Ex.withKids:Ex→List Ex→Ex
 | .mk k f w o q n d nm ms bs _,ks=> .mk k f w o q n d nm ms bs ks
def Ev (e:Ex):Ex:=
 match e.kids with
 |[a,b]=>if e.kind=3∧a.kind=0∧b.kind=0∧(Bc e.fn a.num a.den b.num b.den).2.2=0 then Ay (Bc e.fn a.num a.den b.num b.den).1 (Bc e.fn a.num a.den b.num b.den).2.1 else e
 |_=>e
mutual
def AS:Ex→Ex
 | .mk k f w o q n d nm ms bs ks=>Ev (.mk k f w o q n d nm ms bs (IY ks))
def IY:List Ex→List Ex
 |[]=>[]
 |e::es=>AS e::IY es
end
theorem IH:∀es:List Ex,IY es=es.map AS
 |[]=>by unfold IY;rfl
 |e::es=>by unfold IY;rw[IH es];rfl
theorem CK (e:Ex):AS e=Ev (e.withKids (e.kids.map AS)):=by
 cases e;rw[AS,IH];rfl
section
variable (e:Ex) (ks:List Ex)
theorem Cg:(e.withKids ks).kind=e.kind:=by cases e;rfl
theorem JX:(e.withKids ks).fn=e.fn:=by cases e;rfl
theorem Bq:(e.withKids ks).kids=ks:=by cases e;rfl
theorem Ih (h:DX e):DX (e.withKids ks):=by cases e;exact h
theorem Ig:(e.withKids ks).ms=e.ms:=by cases e;rfl
theorem Gx:(e.withKids ks).bys=e.bys:=by cases e;rfl
end
theorem Jf {e a b:Ex} {x y:Int} (hk:e.kids=[a,b]) (h3:e.kind=3) (ha:a.kind=0) (hb:b.kind=0) (h:Bc e.fn a.num a.den b.num b.den=(x,y,0)):Ev e=Ay x y:=by
 unfold Ev;rw[hk];simp only[h];rw[Uo ⟨h3,ha,hb,trivial⟩]
theorem JV {e a b:Ex} {x y er:Int} (hk:e.kids=[a,b]) (h:Bc e.fn a.num a.den b.num b.den=(x,y,er)) (he:er≠0):Ev e=e:=by
 unfold Ev;rw[hk];simp only[h];rw[Un fun h=>he h.2.2.2]
theorem FI {e:Ex} (h:e.kind=3→∃a b,e.kids=[a,b]∧¬(a.kind=0∧b.kind=0)):Ev e=e:=by
 unfold Ev;split
 ·rename_i a b hk
  rw[Un];rintro⟨h3,ha,hb, -⟩;obtain⟨a',b',hk',hn⟩:=h h3;rw[hk]at hk';injection hk' with e1 e2;injection e2 with e2 _;subst e1 e2;exact hn ⟨ha,hb⟩
 rfl
theorem N4 {z:Int} {d:Nat} {x y er:Int} (h:Cz z d=(x,y,er)):Ah x∧Ah y:=by
 unfold Cz at h;split at h
 ·rename_i hc
  simp only[Uq]at h;obtain⟨rfl,rfl, -⟩:=h;unfold Ah;have h1:(z.tdiv ((z.natAbs.gcd d:Nat):Int)).natAbs=z.natAbs/z.natAbs.gcd d:=by rw[Int.natAbs_tdiv,Int.natAbs_natCast];rfl
  generalize z.tdiv ((z.natAbs.gcd d:Nat):Int)=a at*;generalize d/z.natAbs.gcd d=b at*;omega
 simp only[Uq]at h;obtain⟨rfl,rfl, -⟩:=h;unfold Ah;omega
theorem Bt:Ah 0∧Ah 0:=by unfold Ah;omega
theorem K6 {n1 d1 n2 d2 x y er:Int} (h:DE n1 d1 n2 d2=(x,y,er)):Ah x∧Ah y:=by
 unfold DE at h;split at h
 ·exact N4 h
 simp only[Uq]at h;obtain⟨rfl,rfl, -⟩:=h;exact Bt
theorem NB {n1 d1 n2 d2 x y er:Int} (h:DQ n1 d1 n2 d2=(x,y,er)):Ah x∧Ah y:=by
 unfold DQ at h;split at h
 ·exact N4 h
 simp only[Uq]at h;obtain⟨rfl,rfl, -⟩:=h;exact Bt
theorem Fc {fn n1 d1 n2 d2 x y er:Int} (h:Bc fn n1 d1 n2 d2=(x,y,er)):Ah x∧Ah y:=by
 unfold Bc at h;split at h
 ·exact NB h
 split at h
 ·unfold GA at h;split at h
  ·exact NB h
  simp only[Uq]at h;obtain⟨rfl,rfl, -⟩:=h;exact Bt
 split at h
 ·exact K6 h
 unfold GL at h;split at h
 ·split at h
  ·simp only[Uq]at h;obtain⟨rfl,rfl, -⟩:=h;exact Bt
  split at h
  ·exact K6 h
  exact K6 h
 simp only[Uq]at h;obtain⟨rfl,rfl, -⟩:=h;exact Bt
theorem FG (e:Ex):Ev e=e∨∃x y,Ah x∧Ah y∧Ev e=Ay x y:=by
 unfold Ev;split
 ·split
  ·exact .inr ⟨_,_,(Fc rfl).1,(Fc rfl).2,rfl⟩
  exact .inl rfl
 exact .inl rfl
theorem Px {e:Ex} (h:DX e):DX (Ev e):=by
 rcases FG e with h1|⟨x,y,hx,hy,h1⟩
 ·rw[h1];exact h
 rw[h1];have h0:Ah 0:=Bt.1;exact⟨h0,h0,h0,h0,h0,hx,hy⟩
theorem Gf {e:Ex} (h:DX e):DX (AS e):=by
 rw[CK];exact Px (Ih e _ h)
def Bg (i c:Nat):Bool:=decide (97≤c∧c≤122)||(decide (i≠0)&&(decide (48≤c∧c≤57)||decide (c=95)))
def CI (s:ByteArray):Bool:=decide (1≤s.size∧s.size≤16)&&(List.range s.size).all fun i=>Bg i (s[i]!).toNat
def CS (c:Nat):Bool:=decide (33≤c∧c≤126∧c≠34∧c≠92∧c≠44∧c≠123∧c≠125)
def Cb (s:ByteArray):Bool:=decide (s.size≤16)&&(List.range s.size).all fun i=>CS (s[i]!).toNat
def BA (m:Mt):Bool:=CI m.1&&decide (0≤m.2.1∧m.2.1≤2)&&Cb m.2.2
def SK (a b:ByteArray):Bool:=Op.bytesLess a.toList b.toList||a.toList==b.toList
def MI (l:List ByteArray) (i:Nat):Bool:=match l[i]? with
 |none=>true
 |some s=>CI s&&(match i with
  |0=>true
  |j+1=>match l[j]? with
   |none=>true
   |some r=> !SK s r)
def KM (l:List ByteArray):Bool:=(List.range l.length).all fun i=>MI l i
def C0:List ByteArray:=["sum".toUTF8,"min".toUTF8,"max".toUTF8,"count".toUTF8,"kth".toUTF8]
def KR (s:ByteArray):Bool:=C0.any fun g=>g.toList==s.toList
def B7 (e:Ex):Bool:=
 (decide (e.kind=0∧e.fn=0∧e.kids.length=0)&&AU e.num e.den||decide (e.kind=1∧0≤e.fn∧e.fn≤7∧e.kids.length=0∧e.num=0∧e.den=0)||decide (e.kind=2∧0≤e.fn∧e.fn≤4∧e.kids.length=1∧e.num=0∧e.den=0)||decide (e.kind=3∧0≤e.fn∧e.fn≤3∧e.kids.length=2∧e.num=0∧e.den=0))
 &&decide (e.kind≠1→e.window=0∧e.offset=0∧e.name.size=0∧e.ms.length=0)&&decide (e.kind≠1→e.kind≠2→e.k=0)&&decide (e.kind≠2→e.bys.length=0)
def C3 (e:Ex):Bool:=(decide (e.kind≠1)||(CI e.name&& !KR e.name))&&e.ms.all BA&&KM e.bys
def AJ (e:Ex):Bool:=
 if e.kind=1 then decide (0≤e.offset∧e.offset≤4096)&&(if e.fn=0 then decide (e.window=0∧e.k=0)else decide (1≤e.window∧e.window≤4096)&&(if e.fn=7 then decide (1≤e.k∧e.k≤e.window)else decide (e.k=0)))
 else if e.kind=2∧e.fn=4 then decide (1≤e.k∧e.k≤4096)else decide (e.k=0)
def Bh (e:Ex):Int:=if B7 e=false then 1 else if C3 e=false then 8 else if 8<e.ms.length∨8<e.bys.length then 4 else if AJ e=false then 5 else 0
mutual
def BF:Ex→Int
 | .mk k f w o q n d nm ms bs ks=>if Bh (.mk k f w o q n d nm ms bs ks)≠0 then Bh (.mk k f w o q n d nm ms bs ks)else BM ks
def BM:List Ex→Int
 |[]=>0
 |e::es=>if BF e≠0 then BF e else BM es
end
theorem Gv (e:Ex):BF e=if Bh e≠0 then Bh e else BM e.kids:=by
 cases e;rw[BF];rfl
def CA (e:Ex):Int:=if 12<Ae e∨200<AD e then 4 else BF e
theorem Ga {es:List Ex} {j:Nat} {e:Ex} (h:es[j]? =some e) (h0:BM (es.take j)=0):BM (es.take (j+1))=BF e:=by
 induction es generalizing j with
 |nil=>simp at h
 |cons a tl ih=>
  cases j with
  |zero=>
   obtain rfl:a=e:=by simpa using h
   simp[BM];omega
  |succ j=>
   rw[List.take_succ_cons]at h0 ⊢;unfold BM at h0 ⊢;split at h0
   ·contradiction
   ·rename_i hc
    rw[Un hc];exact ih (by simpa using h) h0
theorem Fg {es:List Ex} {j:Nat} (h0:BM (es.take j)≠0):BM es=BM (es.take j):=by
 induction es generalizing j with
 |nil=>simp[BM]at h0
 |cons a tl ih=>
  cases j with
  |zero=>simp[BM]at h0
  |succ j=>
   rw[List.take_succ_cons]at h0 ⊢;unfold BM at h0 ⊢;split at h0
   ·rename_i hc
    rw[Uo hc,Uo hc]
   ·rename_i hc
    rw[Un hc,Un hc];exact ih h0
theorem Gi:∀{es:List Ex},BM es=0↔∀e∈es,BF e=0
 |[]=>by simp[BM]
 |e::es=>by
  unfold BM;rw[List.forall_mem_cons,←Gi];split
  ·rename_i h;constructor
   ·intro h';exact absurd h' h
   intro h';exact absurd h'.1 h
  ·rename_i h
   have h:BF e=0:=by omega
   simp[h]
theorem G5:∀(n:Nat) (e:Ex),AD e≤n→(BF e=0↔Aw (fun e=>Bh e=0) e)
 |0,e,h=>absurd (AZ e) (by omega)
 |n+1,e,h=>by
  rw[Gv,Aa];have h2:AD e=1+AO e.kids:=by cases e;rw[AD];rfl
  split
  ·rename_i hc;constructor
   ·intro h';exact absurd h' hc
   intro h';exact absurd h'.1 hc
  ·rename_i hc
   have hc:Bh e=0:=by omega
   rw[Gi];constructor
   ·exact fun h'=>⟨hc,fun k hk=>(G5 n k (by have:=AT hk;omega)).1 (h' k hk)⟩
   exact fun h' k hk=>(G5 n k (by have:=AT hk;omega)).2 (h'.2 k hk)
theorem Hj {e:Ex} (h:Bh e=0):B7 e=true:=by
 unfold Bh at h;split at h
 ·simp at h
 ·rename_i hc;simpa using hc
theorem L7 {e:Ex} (h:B7 e=true):RL e:=by
 intro h3;simp[B7,h3]at h;omega
mutual
def ET:Ex→Nat→Int→Int
 | .mk _ _ _ _ _ _ _ _ _ _ ks,dp,l=>Bi ks (dp+1) (if 12<dp then -1 else l-1)
def Bi:List Ex→Nat→Int→Int
 |[],_,l=>l
 |e::es,dp,l=>if l<0 then l else Bi es dp (ET e dp l)
end
theorem NJ (e:Ex) (dp:Nat) (l:Int):ET e dp l=Bi e.kids (dp+1) (if 12<dp then -1 else l-1):=by
 cases e;rw[ET];rfl
theorem Dk {es:List Ex} {dp:Nat} {l:Int} (h:l<0):Bi es dp l=l:=by
 cases es with
 |nil=>rfl
 |cons e es=>rw[Bi,Uo h]
theorem Mi {es:List Ex} {j:Nat} {e:Ex} {dp:Nat} {l:Int} (h:es[j]? =some e) (h0:0≤Bi (es.take j) dp l):Bi (es.take (j+1)) dp l=ET e dp (Bi (es.take j) dp l):=by
 induction es generalizing j l with
 |nil=>simp at h
 |cons a tl ih=>
  cases j with
  |zero=>
   obtain rfl:a=e:=by simpa using h
   have hl:0≤l:=by simpa[Bi]using h0
   simp[Bi];omega
  |succ j=>
   rw[List.take_succ_cons]at h0 ⊢;rw[List.take_succ_cons];rw[Bi]at h0;rw[Bi,Bi];split at h0
   ·omega
   ·rename_i hc
    rw[Un hc,Un hc];exact ih (by simpa using h) h0
theorem Lx {es:List Ex} {j:Nat} {dp:Nat} {l:Int} (h0:Bi (es.take j) dp l<0):Bi es dp l=Bi (es.take j) dp l:=by
 induction es generalizing j l with
 |nil=>simp
 |cons a tl ih=>
  cases j with
  |zero=>
   have:l<0:=by simpa[Bi]using h0
   rw[List.take_zero,Dk this];rfl
  |succ j=>
   rw[List.take_succ_cons]at h0 ⊢;unfold Bi at h0 ⊢;split at h0
   ·rename_i hc
    rw[Uo hc,Uo hc]
   ·rename_i hc
    rw[Un hc,Un hc];exact ih h0
theorem Gb:∀(n:Nat),(∀(e:Ex) (dp:Nat) (l:Int),AD e≤n→0≤l→(((AD e:Nat):Int)≤l∧dp+Ae e≤13→ET e dp l=l-(AD e:Nat))∧(¬(((AD e:Nat):Int)≤l∧dp+Ae e≤13)→ET e dp l= -1))∧
  (∀(es:List Ex) (dp:Nat) (l:Int),AO es<n→0≤l→(((AO es:Nat):Int)≤l∧dp+AY es≤13∨es=[]→Bi es dp l=l-(AO es:Nat))∧(¬(((AO es:Nat):Int)≤l∧dp+AY es≤13∨es=[])→Bi es dp l= -1))
 |0=>⟨fun e _ _ h=>absurd (AZ e) (by omega),fun _ _ _ h=>absurd h (by omega)⟩
 |n+1=>by
  obtain⟨hE,hK⟩:=Gb n;have hK':∀(es:List Ex) (dp:Nat) (l:Int),AO es<n+1→0≤l→(((AO es:Nat):Int)≤l∧dp+AY es≤13∨es=[]→Bi es dp l=l-(AO es:Nat))∧(¬(((AO es:Nat):Int)≤l∧dp+AY es≤13∨es=[])→Bi es dp l= -1):=by
   intro es dp l hn hl;cases es with
   |nil=>exact⟨fun _=>by simp[Bi,AO],fun h=>absurd (.inr rfl) h⟩
   |cons e es=>
    have h1:AO (e::es)=AD e+AO es:=rfl;have h2:AY (e::es)=max (Ae e) (AY es):=rfl;have h0:=AZ e;rw[Bi,Un (by omega)];obtain⟨h3,h4⟩:=hE e dp l (by omega) hl;by_cases hg:((AD e:Nat):Int)≤l∧dp+Ae e≤13
    ·rw[h3 hg];obtain⟨h5,h6⟩:=hK es dp (l-(AD e:Nat)) (by omega) (by omega);constructor
     ·rintro(h|h)
      ·rw[h5 (.inl (by omega)),h1];omega
      cases h
     intro h;by_cases hes:es=[]
     ·subst hes;exact absurd (.inl (by rw[h1,h2,show AO []=0 from rfl,show AY []=0 from rfl];omega)) h
     refine h6 fun h'=>?_
     rcases h' with h'|h'
     ·exact h (.inl (by omega))
     exact hes h'
    rw[h4 hg,Dk (by omega)];refine⟨fun h=>?_,fun _=>rfl⟩;rcases h with h|h
    ·omega
    cases h
  refine⟨?_,hK'⟩;intro e dp l hn hl;rw[NJ];have h2:AD e=1+AO e.kids:=by cases e;rw[AD];rfl
  have h3:Ae e=AY e.kids+1:=by cases e;rw[Ae];rfl
  have h4:e.kids=[]→AO e.kids=0∧AY e.kids=0:=by intro h;rw[h];exact⟨rfl,rfl⟩
  by_cases hd:12<dp
  ·rw[Uo hd,Dk (by omega)];exact⟨fun h=>by omega,fun _=>rfl⟩
  rw[Un hd];by_cases hl0:l=0
  ·rw[Dk (by omega)];exact⟨fun h=>by omega,fun _=>by omega⟩
  obtain⟨h5,h6⟩:=hK' e.kids (dp+1) (l-1) (by omega) (by omega);constructor
  ·intro h;rw[h5 (.inl (by omega)),h2];omega
  intro h;by_cases hk:e.kids=[]
  ·obtain⟨h7,h8⟩:=h4 hk;omega
  refine h6 fun h'=>?_
  rcases h' with h'|h'
  ·exact h (by omega)
  exact hk h'
theorem IR (e:Ex):(0≤ET e 1 200↔¬(12<Ae e∨200<AD e)):=by
 obtain⟨h1,h2⟩:=(Gb (AD e)).1 e 1 200 (by omega) (by omega);by_cases h:((AD e:Nat):Int)≤200∧1+Ae e≤13
 ·rw[h1 h];omega
 rw[h2 h];omega
def Cc (e:Ex):Ex:=if CA e=0 then AS e else e
end Go.Proofs.YtkclnhpofkaclaaGreatDoor
namespace Go.Proofs.YtkclnhpofkaclaaGreatDoor
open Go.RowKit
structure Kg (P:Program) (t e:TypeId) (sz bytes:Nat) (z:Value):Prop where
 under:P.underlying t=some (.slice e)
 info:(P.info? e).map (fun i=>(i.zero,i.size,i.bytes))=some (some z,sz,bytes)
 cells:z.cells.size=sz
 pos:0<sz
 small:bytes≤1024
def E4 (sz:Nat) (rows:List (List Value)):Prop:=∀r∈rows,r.length=sz
theorem BL {sz:Nat}:∀{rows:List (List Value)},E4 sz rows→rows.flatten.length=rows.length*sz
 |[],_=>by simp
 |r::rs,h=>by
  rw[List.flatten_cons,Us,h r List.mem_cons_self,BL (fun r hr=>h r (List.mem_cons_of_mem _ hr)),List.length_cons,Nat.succ_mul];omega
theorem E0 {sz:Nat}:∀{rows:List (List Value)} {j k:Nat} {cs:List Value} {u:Value},E4 sz rows→rows[j]? =some cs→cs[k]? =some u→rows.flatten[j*sz+k]? =some u
 |r::rs,0,k,cs,u,h,hj,hk=>by
  obtain rfl:r=cs:=by simpa using hj
  rw[List.flatten_cons,Nat.zero_mul,Nat.zero_add,List.getElem?_append_left (Uh.1 hk).1];exact hk
 |r::rs,j+1,k,cs,u,h,hj,hk=>by
  have hl:=h r List.mem_cons_self;rw[List.flatten_cons,List.getElem?_append_right (by rw[hl,Nat.succ_mul];omega),hl,show(j+1)*sz+k-sz=j*sz+k by rw[Nat.succ_mul];omega];exact E0 (fun r hr=>h r (List.mem_cons_of_mem _ hr)) (by simpa using hj) hk
def AX (w:World) (base:Nat) (e:TypeId) (sz:Nat) (v:Value) (rows:List (List Value)):Prop:=w.ownsRow base e sz v rows.length rows.flatten∧E4 sz rows
section
variable {w w':World} {base sz:Nat} {e:TypeId} {v:Value} {rows:List (List Value)} {S:Nat→Prop}
theorem AX.nil (w:World) (base:Nat) (e:TypeId) (sz:Nat):AX w base e sz (.slice none 0 0) []:=⟨World.ownsRow_nil _ _ _ _,by intro r hr;cases hr⟩
theorem AX.lt (h:AX w base e sz v rows):∀k,v.ownBlock=some k→base≤k∧k<w.heap.size:=World.ownsRow.lt h.1
theorem AX.keep (h:AX w base e sz v rows) (hk:A4 S w w') (hv:∀k,v.ownBlock=some k→¬S k):AX w' base e sz v rows:=by
 obtain⟨⟨h1,h2⟩,h3⟩:=h;refine⟨⟨h1,?_⟩,h3⟩;rcases h2 with h2|⟨g,cap,cur,rfl,hg,hh,r⟩
 ·exact .inl h2
 have hlt:g<w.heap.size:=by
  rcases Nat.lt_or_ge g w.heap.size with hlt|hge
  ·exact hlt
  rw[Array.getElem?_eq_none hge]at hh;cases hh
 exact .inr ⟨g,cap,cur,rfl,hg,(hk.block g hlt (hv g rfl)).trans hh,r⟩
theorem AX.grew (h:AX w base e sz v rows) (hk:A5 w w'):AX w' base e sz v rows:=h.keep hk fun _ _ e=>e
theorem AX.alloc (h:AX w base e sz v rows) (o:Obj):AX (w.alloc o) base e sz v rows:=⟨World.ownsRow.alloc h.1 o,h.2⟩
theorem AX.base_le {base':Nat} (h:AX w base e sz v rows) (hb:base'≤base):AX w base' e sz v rows:=by
 obtain⟨⟨h1,h2⟩,h3⟩:=h;refine⟨⟨h1,?_⟩,h3⟩;rcases h2 with h2|⟨g,cap,cur,hv,hg,r⟩
 ·exact .inl h2
 exact .inr ⟨g,cap,cur,hv,Ue hb hg,r⟩
theorem AX.form (h:AX w base e sz v rows):(v= .slice none 0 0∧rows=[])∨
  ∃g cap cur,v= .slice (some ⟨g,0,none⟩) rows.length cap∧base≤g∧AK w g e cur∧rows.length≤cap∧cap≤maxLen∧cur.size=cap*sz∧cur.toList.take (rows.length*sz)=rows.flatten:=by
 obtain⟨⟨h1,h2⟩,_⟩:=h;rcases h2 with⟨rfl,h2⟩|⟨g,cap,cur,rfl,hg,hh,h3,h4,h5,h6⟩
 ·exact .inl ⟨rfl,List.eq_nil_of_length_eq_zero h2⟩
 exact .inr ⟨g,cap,cur,rfl,hg,hh,h3,h4,h5,h6⟩
theorem AX.slice (h:AX w base e sz v rows):∃A n c,v= .slice A n c∧n=rows.length∧n≤c:=by
 rcases h.form with⟨rfl,rfl⟩|⟨g,cap,cur,rfl,_,_,h1,_⟩
 ·exact⟨_,_,_,rfl,rfl,Ua _⟩
 exact⟨_,_,_,rfl,rfl,h1⟩
theorem AX.rd (h:AX w base e sz v rows):Bs w w.heap.size sz v rows:=by
 have he:=h.2;rcases h.form with⟨rfl,rfl⟩|⟨g,cap,cur,rfl,hb,hbox,h1,h2,h3,h4⟩
 ·exact⟨none,0,rfl,Ua _,fun h=>absurd h (by simp)⟩
 refine⟨_,cap,rfl,h1,fun _=>⟨g,0,rfl,hbox.lt,fun j cs hj k u hk=>?_⟩⟩;have hf:=E0 he hj hk;have hlt:j*sz+k<rows.length*sz:=by rw[←BL he];exact(Uh.1 hf).1
 rw[Nat.zero_add,hbox.cell,←Array.getElem?_toList,←hf,←h4,List.getElem?_take,Uo hlt]
end
section
variable {P:Program} {t e:TypeId} {sz bytes:Nat} {z:Value} {w:World} {base:Nat} {v:Value} {rows:List (List Value)}
theorem EK (T:Kg P t e sz bytes z) (ty:TypeId) (hown:AX w base e sz v rows) {B:Nat} {sv:Value} {news:List (List Value)} (hr:Bs w B sz sv news) (hev:E4 sz news) (h1:∀r∈news,∀u∈r,u.oneCell'=true)
  (hn:rows.length+news.length≤1099511627) (hbase:base≤w.heap.size):
  ∃v' w',(Builtin.append_ #[t,t] ty #[v,sv]).run P w= .ok v' w'∧AX w' base e sz v' (rows++news)∧A4 (fun i=>v.ownBlock=some i) w w'∧(v'.ownBlock=v.ownBlock∨v'.ownBlock=some w.heap.size):=by
 obtain⟨i,hi,hz,hs,hby⟩:=info_parts T.info;obtain⟨A,c,rfl,hc,hx⟩:=hr;have hb64:=T.small;rcases A with _|ad
 ·have hy:news=[]:=by
   rcases news with _|⟨y,ys⟩
   ·rfl
   obtain⟨b,o,h,_⟩:=hx (by simp);cases h
  subst hy;refine⟨v,w,?_,by simpa using hown,Uz _ _,.inl rfl⟩;rcases hown.1.2 with⟨rfl,h0⟩|⟨g,cap,cur,rfl,_,_,hnc,_⟩
  ·have:rows=[]:=List.eq_nil_of_length_eq_zero h0;subst this;simp[Builtin.append_,run_underlying T.under,sizeOf,typeInfo,hi,Builtin.lenOf,Builtin.firstCells]
  simp[Builtin.append_,run_underlying T.under,sizeOf,typeInfo,hi,Builtin.lenOf,Builtin.firstCells,hnc,storeCells]
 have hcells:∀j u,news.flatten[j]? =some u→w.cell? (ad.add j)=some u:=by
  intro j u hu;have hj:j<news.flatten.length:=(Uh.1 hu).1;have hlen:=BL hev;have hpos:0<news.length:=by
   rcases news with _|⟨y,ys⟩
   ·simp at hj
   simp
  obtain⟨b,o,h,_,hcell⟩:=hx hpos;injection h with h;subst h;have hq:j/sz<news.length:=by
   rw[Nat.div_lt_iff_lt_mul T.pos];omega
  have hjd:j/sz*sz+j%sz=j:=by rw[Up];exact Nat.div_add_mod j sz
  have hk:j%sz<(news[j/sz]).length:=by rw[hev _ (List.getElem_mem hq)];exact Nat.mod_lt _ T.pos
  have hf:=E0 hev (Uc hq) (Uc hk);rw[hjd,hu]at hf;have hh:=hcell (j/sz) _ (Uc hq) (j%sz) _ (Uc hk);have e1:(⟨b,o,none⟩:Addr).add j=⟨b,o+j/sz*sz+j%sz,none⟩:=by
   rw[Uu,hjd];unfold Addr.add;split<;>simp_all
  rw[e1,hh];exact hf.symm
 have hm:(rows.length+news.length)*bytes≤140737488355328:=by
  have:=Nat.mul_le_mul hn hb64;omega
 obtain⟨v',w',hrun,h2,h3,_,h5⟩:=run_append_own_at (P:=P) w base t ty e i z sz bytes T.under hi hz hs hby T.cells T.pos v rows.length rows.flatten hown.1 ad news.length c news.flatten (BL hev) hcells (fun u hu=>by
  obtain⟨r,hr,hu⟩:=List.mem_flatten.1 hu;exact h1 r hr u hu) (by unfold maxLen;omega) hm hbase
 refine⟨v',w',hrun,⟨?_,fun r hr=>?_⟩,(Uz _ w).grown h3 (fun k e _=>e),h5⟩
 ·rw[Us,List.flatten_append];exact h2
 rcases List.mem_append.1 hr with hr|hr
 ·exact hown.2 r hr
 exact hev r hr
theorem QL {ops:Array Oper} {rest:List Oper} {o:Oper} {a:Act} {Q:Exit→Act→World→Prop} (T:Kg P t e sz bytes z) (hgd:o.guard=none) (s x:Operand)
  (ho:o.op= .call { callee:= .builtin .append,args:=#[s,x],argTypes:=#[t,t] })
  (hs:a.eval s=v) (hown:AX w base e sz v rows) (g c:Nat) (d:List Value) (t':TypeId) (hx:a.eval x= .slice (some ⟨g,0,none⟩) 1 c) (hc1:1≤c) (hb:AK w g t' d.toArray) (hd:d.length=sz) (h1:∀u∈d,u.oneCell'=true)
  (hn:rows.length<1099511627) (hbase:base≤w.heap.size)
  (h:∀r cap w',AX w' base e sz (.slice (some ⟨r,0,none⟩) (rows.length+1) cap) (rows++[d])→A4 (fun i=>v.ownBlock=some i) w w'→
   (some r=v.ownBlock∨r=w.heap.size)→base≤r→r<w'.heap.size→wpList P ops Q rest (a.put o.dst (.slice (some ⟨r,0,none⟩) (rows.length+1) cap)) w'):wpList P ops Q (o::rest) a w:=by
 have hr:Bs w w.heap.size sz (.slice (some ⟨g,0,none⟩) 1 c) [d]:=by
  refine⟨_,c,rfl,hc1,fun _=>⟨_,_,rfl,hb.lt,fun j cs hj k u hk=>?_⟩⟩;obtain⟨rfl,rfl⟩:j=0∧d=cs:=by
   cases j with
   |zero=>exact⟨rfl,by simpa using hj⟩
   |succ j=>simp at hj
  rw[Nat.zero_mul,Nat.add_zero,Nat.zero_add,hb.cell];simpa using hk
 refine wpList_plain hgd fun K hK=>?_
 obtain⟨v',w',hrun,h2,h3,h4⟩:=EK (P:=P) T o.type hown hr (by intro r hr;obtain rfl:=Ug.1 hr;exact hd) (by intro r hr;obtain rfl:=Ug.1 hr;exact h1) (by simp;omega) hbase;unfold Oper.wp execOp;simp only[ho,resolve,invoke,builtin,Sem.run_bind,Sem.run_pure,Result.andThen_ok,List.map_toArray,List.map_cons,List.map_nil,hs,hx,hrun];rcases h2.form with⟨_,hh⟩|⟨g',cap',cur,rfl,hb',hbox,_⟩
 ·simp at hh
 simp only[Us,List.length_singleton]at h2 h4 ⊢;refine hK _ _ (h g' cap' w' h2 h3 ?_ hb' hbox.lt);rcases h4 with h4|h4
 ·exact .inl h4
 right;simpa[Value.ownBlock]using h4
end
def Gw (w:World) (B:Nat) (v:Value) (es:List Ex):Prop:=
 ∃A c,v= .slice A es.length c∧es.length≤c∧(0<es.length→∃b o,A=some ⟨b,o,none⟩∧b<B∧Dd w B b o es)
section
variable {w w':World} {B B':Nat}
theorem BC.open_ {e:Ex} {cs:List Value} (h:BC w B e cs):∃vm vb vk,cs=A8 e vm vb vk∧Bs w B 3 vm (e.ms.map AL)∧Bs w B 1 vb (e.bys.map fun s=>[Value.string s])∧Gw w B vk e.kids:=by
 cases e;unfold BC at h;exact h
theorem BC.mk_ {e:Ex} {vm vb vk:Value} (h1:Bs w B 3 vm (e.ms.map AL)) (h2:Bs w B 1 vb (e.bys.map fun s=>[Value.string s])) (h3:Gw w B vk e.kids):BC w B e (A8 e vm vb vk):=by
 cases e;unfold BC;exact⟨vm,vb,vk,rfl,h1,h2,h3⟩
theorem Gw.nil (w:World) (B:Nat):Gw w B (.slice none 0 0) []:=⟨none,0,rfl,Ua _,fun h=>absurd h (by simp)⟩
theorem Bs.nil (w:World) (B sz:Nat):Bs w B sz (.slice none 0 0) []:=⟨none,0,rfl,Ua _,fun h=>absurd h (by simp)⟩
theorem Gw.keep {S:Nat→Prop} {v:Value} {es:List Ex} (h:Gw w B v es) (hB:B≤w.heap.size) (hB':B≤B') (hk:A4 S w w') (hs:∀i,i<B→¬S i):Gw w' B' v es:=by
 obtain⟨A,c,hv,hc,hx⟩:=h;refine⟨A,c,hv,hc,fun hn=>?_⟩;obtain⟨b,o,e,hb,hks⟩:=hx hn;exact⟨b,o,e,by omega,Dd.keep hB hB' hk hs b hb es o hks⟩
theorem Gw.grew {v:Value} {es:List Ex} (h:Gw w w.heap.size v es) (g:A5 w w'):Gw w' w'.heap.size v es:=h.keep (Ua _) g.size g (fun _ _ h=>h)
theorem Gw.slice {v:Value} {es:List Ex} (h:Gw w B v es):∃A n c,v= .slice A n c∧n=es.length∧n≤c:=by
 obtain⟨A,c,rfl,hc,_⟩:=h;exact⟨A,_,c,rfl,rfl,hc⟩
theorem Gw.at_ {A:Option Addr} {n c j:Nat} {es:List Ex} {e:Ex} (h:Gw w B (.slice A n c) es) (hj:es[j]? =some e):∃b o cs,A=some ⟨b,o,none⟩∧b<B∧w.rangeAt b (o+j*11) cs∧BC w B e cs:=by
 obtain⟨A',c',hv,_,hx⟩:=h;injection hv with hA;subst hA;have hl:j<es.length:=(Uh.1 hj).1;obtain⟨b,o,rfl,hb,hks⟩:=hx (by omega);obtain⟨cs,h1,h2⟩:=hks.at_ hj;exact⟨b,o,cs,rfl,hb,h1,h2⟩
theorem CO (e:Ex) (vm vb vk:Value):(A8 e vm vb vk).length=11:=rfl
end
end Go.Proofs.YtkclnhpofkaclaaGreatDoor
