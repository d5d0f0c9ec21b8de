/- package rewrite: the rule cancelProduct. -/
import Derived.Test.YthpflelgbadkcaaGreatDoorRewriteTypesP01
import Derived.Test.YthpflelgbadkcaaGreatDoorRewriteTypesP02
import Derived.Test.YthpflelgbadkcaaGreatDoorRewriteTypesP11
import Derived.Test.YthpflelgbadkcaaGreatDoorRewriteTypesP26
set_option maxRecDepth 100000
set_option maxHeartbeats 12800000
set_option linter.unusedVariables false
set_option linter.unusedSimpArgs false
namespace Go.Proofs.YthpflelgbadkcaaGreatDoor
open Go.RowKit Pl
def Ht (w:World) (Q:Nat→Prop) (z:Nat) (ea eb:Ex) (ca cb:List Value) (wc:World):Prop:=A4 w wc∧AR wc z 29 ca.toArray∧AR wc (z+1) 29 cb.toArray∧AZ wc Q ea ca∧AZ wc Q eb cb∧(∀b,Q b→b<w.heap.size)∧w.heap.size+1+1<z
section
variable {w:World} {Q:Nat→Prop} {z:Nat} {ea eb:Ex} {ca cb:List Value} {wc w':World}
theorem Ht.grew (h:Ht w Q z ea eb ca cb wc) (g:A4 wc w'):Ht w Q z ea eb ca cb w':=⟨h.1.trans g,h.2.1.grew g,h.2.2.1.grew g,h.2.2.2.1.grewQ (fun b hb=>VA (h.2.2.2.2.2.1 b hb) h.1.size) g,h.2.2.2.2.1.grewQ (fun b hb=>VA (h.2.2.2.2.2.1 b hb) h.1.size) g,h.2.2.2.2.2⟩
theorem Ht.rd1 (h:Ht w Q z ea eb ca cb wc):BU wc wc.heap.size ea ca:=AZ.toB (fun b hb=>VA (h.2.2.2.2.2.1 b hb) h.1.size) _ _ h.2.2.2.1
theorem Ht.rd2 (h:Ht w Q z ea eb ca cb wc):BU wc wc.heap.size eb cb:=AZ.toB (fun b hb=>VA (h.2.2.2.2.2.1 b hb) h.1.size) _ _ h.2.2.2.2.1
theorem Ht.row1 (h:Ht w Q z ea eb ca cb wc):wc.rangeAt z 0 ca:=h.2.1.rangeN 0 _ (by simp)
theorem Ht.row2 (h:Ht w Q z ea eb ca cb wc):wc.rangeAt (z+1) 0 cb:=h.2.2.1.rangeN 0 _ (by simp)
theorem Ht.len (h:Ht w Q z ea eb ca cb wc):ca.length=11∧cb.length=11:=⟨h.2.2.2.1.len,h.2.2.2.2.1.len⟩
theorem Ht.one (h:Ht w Q z ea eb ca cb wc):(∀v∈ca,v.oneCell'=true)∧(∀v∈cb,v.oneCell'=true):=⟨h.2.2.2.1.one_ (fun b hb=>VA (h.2.2.2.2.2.1 b hb) h.1.size),h.2.2.2.2.1.one_ (fun b hb=>VA (h.2.2.2.2.2.1 b hb) h.1.size)⟩
theorem Ht.fin1 (h:Ht w Q z ea eb ca cb wc) {r:Option Ex} (hr:r=some ea) (k:AA (fun i=>i=w.heap.size+1+1) wc w'):CU r Q w (.returned (.tuple #[.agg ca.toArray,.bool true])) w':=by
 subst hr;have g8:A4 w w':=VV h.1 k fun i hi e=>by omega
 exact⟨ca,rfl,AZ.keep (S:=fun i=>i=w.heap.size+1+1) (fun b hb=>⟨VA (h.2.2.2.2.2.1 b hb) h.1.size,fun e=>by have:=h.2.2.2.2.2.1 b hb;omega,.inl hb⟩) k _ _ h.2.2.2.1,g8⟩
theorem Ht.fin2 (h:Ht w Q z ea eb ca cb wc) {r:Option Ex} (hr:r=some eb) (k:AA (fun i=>i=w.heap.size+1+1) wc w'):CU r Q w (.returned (.tuple #[.agg cb.toArray,.bool true])) w':=by
 subst hr;have g8:A4 w w':=VV h.1 k fun i hi e=>by omega
 exact⟨cb,rfl,AZ.keep (S:=fun i=>i=w.heap.size+1+1) (fun b hb=>⟨VA (h.2.2.2.2.2.1 b hb) h.1.size,fun e=>by have:=h.2.2.2.2.2.1 b hb;omega,.inl hb⟩) k _ _ h.2.2.2.2.1,g8⟩
end
def Ah (f:Int) (e1 e2:Ex):Option Ex:=
 if f=3∧Gq e1 2=true∧NG (pt2 e1 2) e2=true then some (pt1 e1 2)else if f=3∧Gq e1 2=true∧NG (pt1 e1 2) e2=true then some (pt2 e1 2)
 else if f=2∧Gq e1 3=true∧NG (pt2 e1 3) e2=true then some (pt1 e1 3)else if f=2∧Gq e2 3=true∧NG (pt2 e2 3) e1=true then some (pt1 e2 3)else none
theorem H8 {f:Int} {e1 e2:Ex} (h1:CM e1) (h2:CM e2) {Q:Nat→Prop} {w:World} {cs1 cs2:List Value} (hwt:DI w) (hot:EB w) (hq:∀b,Q b→b<w.heap.size) (hr1:AZ w Q e1 cs1) (hr2:AZ w Q e2 cs2):
  Calls Tryz.prog 59 #[.int .i64 f,.agg cs1.toArray,.agg cs2.toArray] w (CU (Ah f e1 e2) Q w):=by
 have HQ:=V3 hq;have HR1:=V3 (fun w' (g:A4 w w')=>hr1.grewQ hq g);have HR2:=V3 (fun w' (g:A4 w w')=>hr2.grewQ hq g);have HE1:=V3 (fun w' (g:A4 w w')=>AZ.toB (fun b hb=>VA (hq b hb) g.size) _ _ (hr1.grewQ hq g));have HE2:=V3 (fun w' (g:A4 w w')=>AZ.toB (fun b hb=>VA (hq b hb) g.size) _ _ (hr2.grewQ hq g));have HL:=V3 (V5 hr1.len hr2.len);have HO:=V3 (V5 (hr1.one_ hq) (hr2.one_ hq));have HT:=V3 (fun w' (g:A4 w w')=>V5 (hwt.grew g) (hot.keep g (fun h=>h)));have HOK:=V3 (V5 h1 h2);obtain⟨hb1,hb2,hb3,hG⟩:=Ci w 29 29 29 cs1.toArray cs2.toArray (AJ 0 0).toArray;clear hq hr1 hr2 h1 h2 hwt hot;go_enter Tryz.func59,Tryz.ntmps59;go_upto_region 1 with fail;change Code.wp _ _ _ _ (((w.alloc (.cells cs1.toArray 29)).alloc (.cells cs2.toArray 29)).alloc (.cells (AJ 0 0).toArray 29));generalize ((w.alloc (.cells cs1.toArray 29)).alloc (.cells cs2.toArray 29)).alloc (.cells (AJ 0 0).toArray 29)=w1 at*;have HB1:=V3 (show ∀w',A4 w1 w'→w'.rangeAt w.heap.size 0 cs1 from fun w' g=>(hb1.grew g).rangeN 0 _ (by simp));have HB2:=V3 (show ∀w',A4 w1 w'→w'.rangeAt (w.heap.size+1) 0 cs2 from fun w' g=>(hb2.grew g).rangeN 0 _ (by simp));have HB3:=V3 hb3;have HG:=V3 hG;have HK:=V3 (VU w1);clear hb1 hb2 hb3 hG;have HPQ1:=V3 (fun(op:Int) w' (g:A4 w w')=>Hi HOK.out.1 op (Q:=Q) (fun b hb=>VA (HQ.out b hb) g.size) (HR1.out w' g));have HPQ2:=V3 (fun(op:Int) w' (g:A4 w w')=>Hi HOK.out.2 op (Q:=Q) (fun b hb=>VA (HQ.out b hb) g.size) (HR2.out w' g));by_cases f3:f=3
 ·subst f3;go_upto_region 3 with fail;go_upto_region 4 with(first|(refine lM (.tmp 4) (HB1.out _ HK.out) rX ?_ (hl:=HL.out.1))|(go_at_call 89;(with_reducible refine(HPQ1.out 2 _ (HG.out.trans HK.out)).mono ?_);rintro e3 wa1 ⟨ca1,cb1,rfl,hca,hcb,ka⟩;obtain⟨y1,y2,y3⟩:=CI wa1 29 29 (AJ 0 0).toArray (AJ 0 0).toArray;have hla:=hca.len;have hlb:=hcb.len;have hzs:=VD (HG.out.trans HK.out).size ka.size;have hoa:=hca.one_ (fun b hb=>VA (HQ.out b hb) hzs);have hob:=hcb.one_ (fun b hb=>VA (HQ.out b hb) hzs))|(refine sN (.tmp 9) (.tmp 23) ca1 y1 rX ?_ (hl:=hla) (h1:=hoa);intro wb1 hb5 k5 d5;have hb5':=y2.keep k5 (by omega))|(refine sN (.tmp 10) (.tmp 24) cb1 hb5' rX ?_ (hl:=hlb) (h1:=hob);intro wc1 hb6 k6 d6;have hb56:=hb5.keep k6 (by omega))|fail);have hac:A4 wa1 wc1:=VV (VV y3 k5 fun i hi e=>by omega) k6 fun i hi e=>by omega
  have hzw:w.heap.size+1+1<wa1.heap.size:=VA HB3.out.lt (HK.out.trans ka).size;have HP:=V3 (show Ht w Q wa1.heap.size (pt1 e1 2) (pt2 e1 2) ca1 cb1 wc1 from⟨(HG.out.trans HK.out).trans (ka.trans hac),hb56,hb6,hca.grewQ (fun b hb=>VA (HQ.out b hb) hzs) hac,hcb.grewQ (fun b hb=>VA (HQ.out b hb) hzs) hac,HQ.out,hzw⟩);replace HK:=V3 (HK.out.trans (ka.trans hac));clear hb56 hb6 hb5 hb5' y1 y2 y3 k5 k6 d5 d6 ka hac hzs hzw hca hcb hla hlb hoa hob;generalize wa1.heap.size=z1 at*;obtain⟨o,ho⟩:∃q,Gq e1 2=q:=⟨_,rfl⟩;simp only[ho];obtain⟨r1,hr1⟩:∃q,NG (pt2 e1 2) e2=q:=⟨_,rfl⟩;obtain⟨r2,hr2⟩:∃q,NG (pt1 e1 2) e2=q:=⟨_,rfl⟩;rcases o with _|_
  ·go_wp2_with(first|((refine sN (.tmp 6) (.tmp 67) (AJ 0 0) (HB3.out.grew HK.out) rX ?_;intro w8 hb8 k8 d8))|fail);refine rT rX hb8 ?_;exact B2 (by unfold Ah;simp[ho]) (HG.out.trans HK.out) k8
  go_upto_region 5 with fail;rcases r1 with _|_
  ·refine AP [.func (.func 90) #[] #[],.agg cb1.toArray,.agg cs2.toArray,.bool false] ?_ fun w9 hg9=>?_
   ·simp only[nz];refine hP (hM (hl:=HP.out.len.2) (fun w' hg=>(HP.out.grew hg).row2) rX (hM (hl:=HL.out.2) (fun w' hg=>HB2.out _ (HK.out.trans hg)) rX (hR (fun w' hg=>?_) ?_)))
    ·go_simp;(with_reducible refine(DX (HOK.out.1.pt2 2) HOK.out.2 (HP.out.grew hg).rd2 (HE2.out _ (HG.out.trans (HK.out.trans hg))):Calls _ _ _ _ _).mono ?_);rintro e wq ⟨rfl,kq⟩;exact⟨by rw[hr1];try rfl,kq⟩
    exact AK
   simp only[nz];replace HP:=V3 (HP.out.grew hg9);replace HK:=V3 (HK.out.trans hg9);clear hg9;go_upto_region 7 with fail;rcases r2 with _|_
   ·refine AP [.func (.func 90) #[] #[],.agg ca1.toArray,.agg cs2.toArray,.bool false] ?_ fun w9 hg9=>?_
    ·simp only[nz];refine hP (hM (hl:=HP.out.len.1) (fun w' hg=>(HP.out.grew hg).row1) rX (hM (hl:=HL.out.2) (fun w' hg=>HB2.out _ (HK.out.trans hg)) rX (hR (fun w' hg=>?_) ?_)))
     ·go_simp;(with_reducible refine(DX (HOK.out.1.pt1 2) HOK.out.2 (HP.out.grew hg).rd1 (HE2.out _ (HG.out.trans (HK.out.trans hg))):Calls _ _ _ _ _).mono ?_);rintro e wq ⟨rfl,kq⟩;exact⟨by rw[hr2];try rfl,kq⟩
     exact AK
    simp only[nz];replace HP:=V3 (HP.out.grew hg9);replace HK:=V3 (HK.out.trans hg9);clear hg9;go_wp2_with(first|((refine sN (.tmp 6) (.tmp 67) (AJ 0 0) (HB3.out.grew HK.out) rX ?_;intro w8 hb8 k8 d8))|fail);refine rT rX hb8 ?_;exact B2 (by unfold Ah;simp[ho,hr1,hr2]) (HG.out.trans HK.out) k8
   refine AP [.func (.func 90) #[] #[],.agg ca1.toArray,.agg cs2.toArray,.bool true] ?_ fun w9 hg9=>?_
   ·simp only[nz];refine hP (hM (hl:=HP.out.len.1) (fun w' hg=>(HP.out.grew hg).row1) rX (hM (hl:=HL.out.2) (fun w' hg=>HB2.out _ (HK.out.trans hg)) rX (hR (fun w' hg=>?_) ?_)))
    ·go_simp;(with_reducible refine(DX (HOK.out.1.pt1 2) HOK.out.2 (HP.out.grew hg).rd1 (HE2.out _ (HG.out.trans (HK.out.trans hg))):Calls _ _ _ _ _).mono ?_);rintro e wq ⟨rfl,kq⟩;exact⟨by rw[hr2];try rfl,kq⟩
    exact AK
   simp only[nz];replace HP:=V3 (HP.out.grew hg9);replace HK:=V3 (HK.out.trans hg9);clear hg9;go_wp2_with(first|(refine lM (.tmp 10) HP.out.row2 rX ?_ (hl:=HP.out.len.2))|(refine sN (.tmp 6) (.tmp 36) cb1 (HB3.out.grew HK.out) rX ?_ (hl:=HP.out.len.2) (h1:=HP.out.one.2);intro w8 hb8 k8 d8)|fail);refine rT rX hb8 ?_ (hl:=HP.out.len.2);exact HP.out.fin2 (by unfold Ah;simp[ho,hr1,hr2]) k8
  refine AP [.func (.func 90) #[] #[],.agg cb1.toArray,.agg cs2.toArray,.bool true] ?_ fun w9 hg9=>?_
  ·simp only[nz];refine hP (hM (hl:=HP.out.len.2) (fun w' hg=>(HP.out.grew hg).row2) rX (hM (hl:=HL.out.2) (fun w' hg=>HB2.out _ (HK.out.trans hg)) rX (hR (fun w' hg=>?_) ?_)))
   ·go_simp;(with_reducible refine(DX (HOK.out.1.pt2 2) HOK.out.2 (HP.out.grew hg).rd2 (HE2.out _ (HG.out.trans (HK.out.trans hg))):Calls _ _ _ _ _).mono ?_);rintro e wq ⟨rfl,kq⟩;exact⟨by rw[hr1];try rfl,kq⟩
   exact AK
  simp only[nz];replace HP:=V3 (HP.out.grew hg9);replace HK:=V3 (HK.out.trans hg9);clear hg9;go_wp2_with(first|(refine lM (.tmp 9) HP.out.row1 rX ?_ (hl:=HP.out.len.1))|(refine sN (.tmp 6) (.tmp 31) ca1 (HB3.out.grew HK.out) rX ?_ (hl:=HP.out.len.1) (h1:=HP.out.one.1);intro w8 hb8 k8 d8)|fail);refine rT rX hb8 ?_ (hl:=HP.out.len.1);exact HP.out.fin1 (by unfold Ah;simp[ho,hr1]) k8
 have t3:(f==3)=false:=by rw[V4];exact f3
 by_cases f2:f=2
 ·subst f2;go_upto_region 10 with fail;go_upto_region 11 with(first|(refine lM (.tmp 4) (HB1.out _ HK.out) rX ?_ (hl:=HL.out.1))|(go_at_call 89;(with_reducible refine(HPQ1.out 3 _ (HG.out.trans HK.out)).mono ?_);rintro e3 wa1 ⟨ca1,cb1,rfl,hca,hcb,ka⟩;obtain⟨y1,y2,y3⟩:=CI wa1 29 29 (AJ 0 0).toArray (AJ 0 0).toArray;have hla:=hca.len;have hlb:=hcb.len;have hzs:=VD (HG.out.trans HK.out).size ka.size;have hoa:=hca.one_ (fun b hb=>VA (HQ.out b hb) hzs);have hob:=hcb.one_ (fun b hb=>VA (HQ.out b hb) hzs))|(refine sN (.tmp 12) (.tmp 42) ca1 y1 rX ?_ (hl:=hla) (h1:=hoa);intro wb1 hb5 k5 d5;have hb5':=y2.keep k5 (by omega))|(refine sN (.tmp 13) (.tmp 43) cb1 hb5' rX ?_ (hl:=hlb) (h1:=hob);intro wc1 hb6 k6 d6;have hb56:=hb5.keep k6 (by omega))|fail);have hac:A4 wa1 wc1:=VV (VV y3 k5 fun i hi e=>by omega) k6 fun i hi e=>by omega
  have hzw:w.heap.size+1+1<wa1.heap.size:=VA HB3.out.lt (HK.out.trans ka).size;have HP:=V3 (show Ht w Q wa1.heap.size (pt1 e1 3) (pt2 e1 3) ca1 cb1 wc1 from⟨(HG.out.trans HK.out).trans (ka.trans hac),hb56,hb6,hca.grewQ (fun b hb=>VA (HQ.out b hb) hzs) hac,hcb.grewQ (fun b hb=>VA (HQ.out b hb) hzs) hac,HQ.out,hzw⟩);replace HK:=V3 (HK.out.trans (ka.trans hac));clear hb56 hb6 hb5 hb5' y1 y2 y3 k5 k6 d5 d6 ka hac hzs hzw hca hcb hla hlb hoa hob;generalize wa1.heap.size=z1 at*;obtain⟨o,ho⟩:∃q,Gq e1 3=q:=⟨_,rfl⟩;simp only[ho];obtain⟨r1,hr1⟩:∃q,NG (pt2 e1 3) e2=q:=⟨_,rfl⟩;rcases o with _|_
  ·refine AP [.bool false,.bool false,undef,undef,undef,undef,.bool false] ?_ fun w9 hg9=>?_
   ·simp only[nz];exact hP (hP (hS (hS (hS (hS (hP AK))))))
   simp only[nz];replace HP:=V3 (HP.out.grew hg9);replace HK:=V3 (HK.out.trans hg9);clear hg9;clear HP;go_upto_region 13 with fail;go_upto_region 14 with(first|(refine lM (.tmp 5) (HB2.out _ HK.out) rX ?_ (hl:=HL.out.2))|(go_at_call 89;(with_reducible refine(HPQ2.out 3 _ (HG.out.trans HK.out)).mono ?_);rintro e3 wa2 ⟨ca2,cb2,rfl,hca,hcb,ka⟩;obtain⟨y1,y2,y3⟩:=CI wa2 29 29 (AJ 0 0).toArray (AJ 0 0).toArray;have hla:=hca.len;have hlb:=hcb.len;have hzs:=VD (HG.out.trans HK.out).size ka.size;have hoa:=hca.one_ (fun b hb=>VA (HQ.out b hb) hzs);have hob:=hcb.one_ (fun b hb=>VA (HQ.out b hb) hzs))|(refine sN (.tmp 15) (.tmp 56) ca2 y1 rX ?_ (hl:=hla) (h1:=hoa);intro wb2 hb5 k5 d5;have hb5':=y2.keep k5 (by omega))|(refine sN (.tmp 16) (.tmp 57) cb2 hb5' rX ?_ (hl:=hlb) (h1:=hob);intro wc2 hb6 k6 d6;have hb56:=hb5.keep k6 (by omega))|fail);have hac:A4 wa2 wc2:=VV (VV y3 k5 fun i hi e=>by omega) k6 fun i hi e=>by omega
   have hzw:w.heap.size+1+1<wa2.heap.size:=VA HB3.out.lt (HK.out.trans ka).size;have HP:=V3 (show Ht w Q wa2.heap.size (pt1 e2 3) (pt2 e2 3) ca2 cb2 wc2 from⟨(HG.out.trans HK.out).trans (ka.trans hac),hb56,hb6,hca.grewQ (fun b hb=>VA (HQ.out b hb) hzs) hac,hcb.grewQ (fun b hb=>VA (HQ.out b hb) hzs) hac,HQ.out,hzw⟩);replace HK:=V3 (HK.out.trans (ka.trans hac));clear hb56 hb6 hb5 hb5' y1 y2 y3 k5 k6 d5 d6 ka hac hzs hzw hca hcb hla hlb hoa hob;generalize wa2.heap.size=z2 at*;obtain⟨p,hp⟩:∃q,Gq e2 3=q:=⟨_,rfl⟩;simp only[hp];obtain⟨r2,hr2⟩:∃q,NG (pt2 e2 3) e1=q:=⟨_,rfl⟩;rcases p with _|_
   ·refine AP [.bool false,.bool false,undef,undef,undef,undef,.bool false] ?_ fun w9 hg9=>?_
    ·simp only[nz];exact hP (hP (hS (hS (hS (hS (hP AK))))))
    simp only[nz];replace HP:=V3 (HP.out.grew hg9);replace HK:=V3 (HK.out.trans hg9);clear hg9;go_wp2_with(first|((refine sN (.tmp 6) (.tmp 67) (AJ 0 0) (HB3.out.grew HK.out) rX ?_;intro w8 hb8 k8 d8))|fail);refine rT rX hb8 ?_;exact B2 (by unfold Ah;simp[ho,hp]) (HG.out.trans HK.out) k8
   rcases r2 with _|_
   ·refine AP [.bool true,.bool true,.func (.func 90) #[] #[],.agg cb2.toArray,.agg cs1.toArray,.bool false,.bool false] ?_ fun w9 hg9=>?_
    ·simp only[nz];refine hP (hP (hP (hM (hl:=HP.out.len.2) (fun w' hg=>(HP.out.grew hg).row2) rX (hM (hl:=HL.out.1) (fun w' hg=>HB1.out _ (HK.out.trans hg)) rX (hR (fun w' hg=>?_) ?_)))))
     ·go_simp;(with_reducible refine(DX (HOK.out.2.pt2 3) HOK.out.1 (HP.out.grew hg).rd2 (HE1.out _ (HG.out.trans (HK.out.trans hg))):Calls _ _ _ _ _).mono ?_);rintro e wq ⟨rfl,kq⟩;exact⟨by rw[hr2];try rfl,kq⟩
     exact hP AK
    simp only[nz];replace HP:=V3 (HP.out.grew hg9);replace HK:=V3 (HK.out.trans hg9);clear hg9;go_wp2_with(first|((refine sN (.tmp 6) (.tmp 67) (AJ 0 0) (HB3.out.grew HK.out) rX ?_;intro w8 hb8 k8 d8))|fail);refine rT rX hb8 ?_;exact B2 (by unfold Ah;simp[ho,hp,hr2]) (HG.out.trans HK.out) k8
   refine AP [.bool true,.bool true,.func (.func 90) #[] #[],.agg cb2.toArray,.agg cs1.toArray,.bool true,.bool true] ?_ fun w9 hg9=>?_
   ·simp only[nz];refine hP (hP (hP (hM (hl:=HP.out.len.2) (fun w' hg=>(HP.out.grew hg).row2) rX (hM (hl:=HL.out.1) (fun w' hg=>HB1.out _ (HK.out.trans hg)) rX (hR (fun w' hg=>?_) ?_)))))
    ·go_simp;(with_reducible refine(DX (HOK.out.2.pt2 3) HOK.out.1 (HP.out.grew hg).rd2 (HE1.out _ (HG.out.trans (HK.out.trans hg))):Calls _ _ _ _ _).mono ?_);rintro e wq ⟨rfl,kq⟩;exact⟨by rw[hr2];try rfl,kq⟩
    exact hP AK
   simp only[nz];replace HP:=V3 (HP.out.grew hg9);replace HK:=V3 (HK.out.trans hg9);clear hg9;go_wp2_with(first|(refine lM (.tmp 15) HP.out.row1 rX ?_ (hl:=HP.out.len.1))|(refine sN (.tmp 6) (.tmp 66) ca2 (HB3.out.grew HK.out) rX ?_ (hl:=HP.out.len.1) (h1:=HP.out.one.1);intro w8 hb8 k8 d8)|fail);refine rT rX hb8 ?_ (hl:=HP.out.len.1);exact HP.out.fin1 (by unfold Ah;simp[ho,hp,hr2]) k8
  rcases r1 with _|_
  ·refine AP [.bool true,.bool true,.func (.func 90) #[] #[],.agg cb1.toArray,.agg cs2.toArray,.bool false,.bool false] ?_ fun w9 hg9=>?_
   ·simp only[nz];refine hP (hP (hP (hM (hl:=HP.out.len.2) (fun w' hg=>(HP.out.grew hg).row2) rX (hM (hl:=HL.out.2) (fun w' hg=>HB2.out _ (HK.out.trans hg)) rX (hR (fun w' hg=>?_) ?_)))))
    ·go_simp;(with_reducible refine(DX (HOK.out.1.pt2 3) HOK.out.2 (HP.out.grew hg).rd2 (HE2.out _ (HG.out.trans (HK.out.trans hg))):Calls _ _ _ _ _).mono ?_);rintro e wq ⟨rfl,kq⟩;exact⟨by rw[hr1];try rfl,kq⟩
    exact hP AK
   simp only[nz];replace HP:=V3 (HP.out.grew hg9);replace HK:=V3 (HK.out.trans hg9);clear hg9;clear HP;go_upto_region 13 with fail;go_upto_region 14 with(first|(refine lM (.tmp 5) (HB2.out _ HK.out) rX ?_ (hl:=HL.out.2))|(go_at_call 89;(with_reducible refine(HPQ2.out 3 _ (HG.out.trans HK.out)).mono ?_);rintro e3 wa2 ⟨ca2,cb2,rfl,hca,hcb,ka⟩;obtain⟨y1,y2,y3⟩:=CI wa2 29 29 (AJ 0 0).toArray (AJ 0 0).toArray;have hla:=hca.len;have hlb:=hcb.len;have hzs:=VD (HG.out.trans HK.out).size ka.size;have hoa:=hca.one_ (fun b hb=>VA (HQ.out b hb) hzs);have hob:=hcb.one_ (fun b hb=>VA (HQ.out b hb) hzs))|(refine sN (.tmp 15) (.tmp 56) ca2 y1 rX ?_ (hl:=hla) (h1:=hoa);intro wb2 hb5 k5 d5;have hb5':=y2.keep k5 (by omega))|(refine sN (.tmp 16) (.tmp 57) cb2 hb5' rX ?_ (hl:=hlb) (h1:=hob);intro wc2 hb6 k6 d6;have hb56:=hb5.keep k6 (by omega))|fail);have hac:A4 wa2 wc2:=VV (VV y3 k5 fun i hi e=>by omega) k6 fun i hi e=>by omega
   have hzw:w.heap.size+1+1<wa2.heap.size:=VA HB3.out.lt (HK.out.trans ka).size;have HP:=V3 (show Ht w Q wa2.heap.size (pt1 e2 3) (pt2 e2 3) ca2 cb2 wc2 from⟨(HG.out.trans HK.out).trans (ka.trans hac),hb56,hb6,hca.grewQ (fun b hb=>VA (HQ.out b hb) hzs) hac,hcb.grewQ (fun b hb=>VA (HQ.out b hb) hzs) hac,HQ.out,hzw⟩);replace HK:=V3 (HK.out.trans (ka.trans hac));clear hb56 hb6 hb5 hb5' y1 y2 y3 k5 k6 d5 d6 ka hac hzs hzw hca hcb hla hlb hoa hob;generalize wa2.heap.size=z2 at*;obtain⟨p,hp⟩:∃q,Gq e2 3=q:=⟨_,rfl⟩;simp only[hp];obtain⟨r2,hr2⟩:∃q,NG (pt2 e2 3) e1=q:=⟨_,rfl⟩;rcases p with _|_
   ·refine AP [.bool false,.bool false,undef,undef,undef,undef,.bool false] ?_ fun w9 hg9=>?_
    ·simp only[nz];exact hP (hP (hS (hS (hS (hS (hP AK))))))
    simp only[nz];replace HP:=V3 (HP.out.grew hg9);replace HK:=V3 (HK.out.trans hg9);clear hg9;go_wp2_with(first|((refine sN (.tmp 6) (.tmp 67) (AJ 0 0) (HB3.out.grew HK.out) rX ?_;intro w8 hb8 k8 d8))|fail);refine rT rX hb8 ?_;exact B2 (by unfold Ah;simp[ho,hr1,hp]) (HG.out.trans HK.out) k8
   rcases r2 with _|_
   ·refine AP [.bool true,.bool true,.func (.func 90) #[] #[],.agg cb2.toArray,.agg cs1.toArray,.bool false,.bool false] ?_ fun w9 hg9=>?_
    ·simp only[nz];refine hP (hP (hP (hM (hl:=HP.out.len.2) (fun w' hg=>(HP.out.grew hg).row2) rX (hM (hl:=HL.out.1) (fun w' hg=>HB1.out _ (HK.out.trans hg)) rX (hR (fun w' hg=>?_) ?_)))))
     ·go_simp;(with_reducible refine(DX (HOK.out.2.pt2 3) HOK.out.1 (HP.out.grew hg).rd2 (HE1.out _ (HG.out.trans (HK.out.trans hg))):Calls _ _ _ _ _).mono ?_);rintro e wq ⟨rfl,kq⟩;exact⟨by rw[hr2];try rfl,kq⟩
     exact hP AK
    simp only[nz];replace HP:=V3 (HP.out.grew hg9);replace HK:=V3 (HK.out.trans hg9);clear hg9;go_wp2_with(first|((refine sN (.tmp 6) (.tmp 67) (AJ 0 0) (HB3.out.grew HK.out) rX ?_;intro w8 hb8 k8 d8))|fail);refine rT rX hb8 ?_;exact B2 (by unfold Ah;simp[ho,hr1,hp,hr2]) (HG.out.trans HK.out) k8
   refine AP [.bool true,.bool true,.func (.func 90) #[] #[],.agg cb2.toArray,.agg cs1.toArray,.bool true,.bool true] ?_ fun w9 hg9=>?_
   ·simp only[nz];refine hP (hP (hP (hM (hl:=HP.out.len.2) (fun w' hg=>(HP.out.grew hg).row2) rX (hM (hl:=HL.out.1) (fun w' hg=>HB1.out _ (HK.out.trans hg)) rX (hR (fun w' hg=>?_) ?_)))))
    ·go_simp;(with_reducible refine(DX (HOK.out.2.pt2 3) HOK.out.1 (HP.out.grew hg).rd2 (HE1.out _ (HG.out.trans (HK.out.trans hg))):Calls _ _ _ _ _).mono ?_);rintro e wq ⟨rfl,kq⟩;exact⟨by rw[hr2];try rfl,kq⟩
    exact hP AK
   simp only[nz];replace HP:=V3 (HP.out.grew hg9);replace HK:=V3 (HK.out.trans hg9);clear hg9;go_wp2_with(first|(refine lM (.tmp 15) HP.out.row1 rX ?_ (hl:=HP.out.len.1))|(refine sN (.tmp 6) (.tmp 66) ca2 (HB3.out.grew HK.out) rX ?_ (hl:=HP.out.len.1) (h1:=HP.out.one.1);intro w8 hb8 k8 d8)|fail);refine rT rX hb8 ?_ (hl:=HP.out.len.1);exact HP.out.fin1 (by unfold Ah;simp[ho,hr1,hp,hr2]) k8
  refine AP [.bool true,.bool true,.func (.func 90) #[] #[],.agg cb1.toArray,.agg cs2.toArray,.bool true,.bool true] ?_ fun w9 hg9=>?_
  ·simp only[nz];refine hP (hP (hP (hM (hl:=HP.out.len.2) (fun w' hg=>(HP.out.grew hg).row2) rX (hM (hl:=HL.out.2) (fun w' hg=>HB2.out _ (HK.out.trans hg)) rX (hR (fun w' hg=>?_) ?_)))))
   ·go_simp;(with_reducible refine(DX (HOK.out.1.pt2 3) HOK.out.2 (HP.out.grew hg).rd2 (HE2.out _ (HG.out.trans (HK.out.trans hg))):Calls _ _ _ _ _).mono ?_);rintro e wq ⟨rfl,kq⟩;exact⟨by rw[hr1];try rfl,kq⟩
   exact hP AK
  simp only[nz];replace HP:=V3 (HP.out.grew hg9);replace HK:=V3 (HK.out.trans hg9);clear hg9;go_wp2_with(first|(refine lM (.tmp 12) HP.out.row1 rX ?_ (hl:=HP.out.len.1))|(refine sN (.tmp 6) (.tmp 52) ca1 (HB3.out.grew HK.out) rX ?_ (hl:=HP.out.len.1) (h1:=HP.out.one.1);intro w8 hb8 k8 d8)|fail);refine rT rX hb8 ?_ (hl:=HP.out.len.1);exact HP.out.fin1 (by unfold Ah;simp[ho,hr1]) k8
 have t2:(f==2)=false:=by rw[V4];exact f2
 have HF:=V3 (V5 f2 f3);clear f2 f3;go_wp2_with(first|((refine sN (.tmp 6) (.tmp 67) (AJ 0 0) (HB3.out.grew HK.out) rX ?_;intro w8 hb8 k8 d8))|fail);refine rT rX hb8 ?_;exact B2 (by unfold Ah;simp[HF.out.1,HF.out.2]) (HG.out.trans HK.out) k8
end Go.Proofs.YthpflelgbadkcaaGreatDoor
