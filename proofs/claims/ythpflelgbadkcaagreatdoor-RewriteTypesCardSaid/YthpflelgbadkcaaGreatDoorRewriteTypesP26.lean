/- package rewrite: the rules nothing, vanish. -/
import Derived.Test.YthpflelgbadkcaaGreatDoorRewriteTypesP01
import Derived.Test.YthpflelgbadkcaaGreatDoorRewriteTypesP02
import Derived.Test.YthpflelgbadkcaaGreatDoorRewriteTypesP11
import Derived.Test.YthpflelgbadkcaaGreatDoorRewriteTypesP25
set_option maxRecDepth 100000
set_option maxHeartbeats 12800000
set_option linter.unusedVariables false
set_option linter.unusedSimpArgs false
namespace Go.Proofs.YthpflelgbadkcaaGreatDoor
open Go.RowKit Pl
def CA (f:Int) (e1 e2:Ex):Option Ex:=if(f=0∨f=1)∧I5 e2 e1=true then some e1 else if f=0∧I5 e1 e2=true then some e2 else none
theorem M8 {f:Int} {e1 e2:Ex} (h1:CM e1) (h2:CM e2) {Q:Nat→Prop} {w:World} {cs1 cs2:List Value} (hwt:DI w) (hot:EB w) (hq:∀b,Q b→b<w.heap.size) (hr1:AZ w Q e1 cs1) (hr2:AZ w Q e2 cs2):
  Calls Tryz.prog 61 #[.int .i64 f,.agg cs1.toArray,.agg cs2.toArray] w (CU (CA f e1 e2) Q w):=by
 have HQ:=V3 hq;have HR1:=V3 (fun w' (g:A4 w w')=>hr1.grewQ hq g);have HR2:=V3 (fun w' (g:A4 w w')=>hr2.grewQ hq g);have HE1:=V3 (fun w' (g:A4 w w')=>AZ.toB (fun b hb=>VA (hq b hb) g.size) _ _ (hr1.grewQ hq g));have HE2:=V3 (fun w' (g:A4 w w')=>AZ.toB (fun b hb=>VA (hq b hb) g.size) _ _ (hr2.grewQ hq g));have HL:=V3 (V5 hr1.len hr2.len);have HO:=V3 (V5 (hr1.one_ hq) (hr2.one_ hq));have HT:=V3 (fun w' (g:A4 w w')=>V5 (hwt.grew g) (hot.keep g (fun h=>h)));have HOK:=V3 (V5 h1 h2);obtain⟨hb1,hb2,hb3,hG⟩:=Ci w 29 29 29 cs1.toArray cs2.toArray (AJ 0 0).toArray;clear hq hr1 hr2 h1 h2 hwt hot;go_enter Tryz.func61,Tryz.ntmps61;go_upto_region 1 with fail;change Code.wp _ _ _ _ (((w.alloc (.cells cs1.toArray 29)).alloc (.cells cs2.toArray 29)).alloc (.cells (AJ 0 0).toArray 29));generalize ((w.alloc (.cells cs1.toArray 29)).alloc (.cells cs2.toArray 29)).alloc (.cells (AJ 0 0).toArray 29)=w1 at*;have HB1:=V3 (show ∀w',A4 w1 w'→w'.rangeAt w.heap.size 0 cs1 from fun w' g=>(hb1.grew g).rangeN 0 _ (by simp));have HB2:=V3 (show ∀w',A4 w1 w'→w'.rangeAt (w.heap.size+1) 0 cs2 from fun w' g=>(hb2.grew g).rangeN 0 _ (by simp));have HB3:=V3 hb3;have HG:=V3 hG;have HK:=V3 (VU w1);clear hb1 hb2 hb3 hG;by_cases f0:f=0
 ·subst f0;obtain⟨r1,hr1⟩:∃q,I5 e2 e1=q:=⟨_,rfl⟩;obtain⟨r2,hr2⟩:∃q,I5 e1 e2=q:=⟨_,rfl⟩;go_upto_region 2 with fail;rcases r1 with _|_
  ·refine AP [(.int .i64 0),.bool true,.bool true,undef,undef,.bool true,.bool true,.func (.func 91) #[] #[],.agg cs2.toArray,.agg cs1.toArray,.bool false,.bool false] ?_ fun w9 hg9=>?_
   ·simp only[nz];refine hP (hR (fun w' hg=>?_) ?_)
    ·go_simp;first|done|exact VU _
    refine hP (hS (hS (hP (hP (hP (hM (hl:=HL.out.2) (fun w' hg=>HB2.out _ (HK.out.trans hg)) rX (hM (hl:=HL.out.1) (fun w' hg=>HB1.out _ (HK.out.trans hg)) rX (hR (fun w' hg=>?_) ?_))))))))
    ·go_simp;(with_reducible refine(G9 HOK.out.2 HOK.out.1 (HT.out _ (HG.out.trans (HK.out.trans hg))).1 (HT.out _ (HG.out.trans (HK.out.trans hg))).2 (HE2.out _ (HG.out.trans (HK.out.trans hg))) (HE1.out _ (HG.out.trans (HK.out.trans hg))):Calls _ _ _ _ _).mono ?_);rintro e wq ⟨rfl,kq⟩;exact⟨by rw[hr1];try rfl,kq⟩
    exact hP AK
   simp only[nz];have HK2:=V3 (HK.out.trans hg9);clear hg9;go_upto_region 4 with fail;rcases r2 with _|_
   ·refine AP [(.int .i64 0),.bool true,.bool true,.func (.func 91) #[] #[],.agg cs1.toArray,.agg cs2.toArray,.bool false,.bool false] ?_ fun w9 hg9=>?_
    ·simp only[nz];refine hP (hR (fun w' hg=>?_) ?_)
     ·go_simp;first|done|exact VU _
     refine hP (hP (hM (hl:=HL.out.1) (fun w' hg=>HB1.out _ (HK2.out.trans hg)) rX (hM (hl:=HL.out.2) (fun w' hg=>HB2.out _ (HK2.out.trans hg)) rX (hR (fun w' hg=>?_) ?_))))
     ·go_simp;(with_reducible refine(G9 HOK.out.1 HOK.out.2 (HT.out _ (HG.out.trans (HK2.out.trans hg))).1 (HT.out _ (HG.out.trans (HK2.out.trans hg))).2 (HE1.out _ (HG.out.trans (HK2.out.trans hg))) (HE2.out _ (HG.out.trans (HK2.out.trans hg))):Calls _ _ _ _ _).mono ?_);rintro e wq ⟨rfl,kq⟩;exact⟨by rw[hr2];try rfl,kq⟩
     exact hP AK
    simp only[nz];have HK3:=V3 (HK2.out.trans hg9);go_wp2_with(first|(refine lM (.tmp 5) (HB2.out _ HK3.out) rX ?_ (hl:=HL.out.2))|(refine sN (.tmp 6) (.tmp 30) cs2 (HB3.out.grew HK3.out) rX ?_ (hl:=HL.out.2) (h1:=HO.out.2);intro w8 hb8 k8 d8)|(refine sN (.tmp 6) (.tmp 31) (AJ 0 0) (HB3.out.grew HK3.out) rX ?_;intro w8 hb8 k8 d8)|fail);refine rT rX hb8 ?_;exact B2 (by unfold CA;simp[hr1,hr2]) (HG.out.trans HK3.out) k8
   refine AP [(.int .i64 0),.bool true,.bool true,.func (.func 91) #[] #[],.agg cs1.toArray,.agg cs2.toArray,.bool true,.bool true] ?_ fun w9 hg9=>?_
   ·simp only[nz];refine hP (hR (fun w' hg=>?_) ?_)
    ·go_simp;first|done|exact VU _
    refine hP (hP (hM (hl:=HL.out.1) (fun w' hg=>HB1.out _ (HK2.out.trans hg)) rX (hM (hl:=HL.out.2) (fun w' hg=>HB2.out _ (HK2.out.trans hg)) rX (hR (fun w' hg=>?_) ?_))))
    ·go_simp;(with_reducible refine(G9 HOK.out.1 HOK.out.2 (HT.out _ (HG.out.trans (HK2.out.trans hg))).1 (HT.out _ (HG.out.trans (HK2.out.trans hg))).2 (HE1.out _ (HG.out.trans (HK2.out.trans hg))) (HE2.out _ (HG.out.trans (HK2.out.trans hg))):Calls _ _ _ _ _).mono ?_);rintro e wq ⟨rfl,kq⟩;exact⟨by rw[hr2];try rfl,kq⟩
    exact hP AK
   simp only[nz];have HK3:=V3 (HK2.out.trans hg9);go_wp2_with(first|(refine lM (.tmp 5) (HB2.out _ HK3.out) rX ?_ (hl:=HL.out.2))|(refine sN (.tmp 6) (.tmp 30) cs2 (HB3.out.grew HK3.out) rX ?_ (hl:=HL.out.2) (h1:=HO.out.2);intro w8 hb8 k8 d8)|(refine sN (.tmp 6) (.tmp 31) (AJ 0 0) (HB3.out.grew HK3.out) rX ?_;intro w8 hb8 k8 d8)|fail);refine rT rX hb8 ?_ (hl:=HL.out.2);exact DH (by unfold CA;simp[hr1,hr2]) HQ.out (HR2.out _ (VU _)) (HG.out.trans HK3.out) k8
  refine AP [(.int .i64 0),.bool true,.bool true,undef,undef,.bool true,.bool true,.func (.func 91) #[] #[],.agg cs2.toArray,.agg cs1.toArray,.bool true,.bool true] ?_ fun w9 hg9=>?_
  ·simp only[nz];refine hP (hR (fun w' hg=>?_) ?_)
   ·go_simp;first|done|exact VU _
   refine hP (hS (hS (hP (hP (hP (hM (hl:=HL.out.2) (fun w' hg=>HB2.out _ (HK.out.trans hg)) rX (hM (hl:=HL.out.1) (fun w' hg=>HB1.out _ (HK.out.trans hg)) rX (hR (fun w' hg=>?_) ?_))))))))
   ·go_simp;(with_reducible refine(G9 HOK.out.2 HOK.out.1 (HT.out _ (HG.out.trans (HK.out.trans hg))).1 (HT.out _ (HG.out.trans (HK.out.trans hg))).2 (HE2.out _ (HG.out.trans (HK.out.trans hg))) (HE1.out _ (HG.out.trans (HK.out.trans hg))):Calls _ _ _ _ _).mono ?_);rintro e wq ⟨rfl,kq⟩;exact⟨by rw[hr1];try rfl,kq⟩
   exact hP AK
  simp only[nz];have HK3:=V3 (HK.out.trans hg9);go_wp2_with(first|(refine lM (.tmp 4) (HB1.out _ HK3.out) rX ?_ (hl:=HL.out.1))|(refine sN (.tmp 6) (.tmp 21) cs1 (HB3.out.grew HK3.out) rX ?_ (hl:=HL.out.1) (h1:=HO.out.1);intro w8 hb8 k8 d8)|fail);refine rT rX hb8 ?_ (hl:=HL.out.1);exact DH (by unfold CA;simp[hr1,hr2]) HQ.out (HR1.out _ (VU _)) (HG.out.trans HK3.out) k8
 by_cases f1:f=1
 ·subst f1;obtain⟨r1,hr1⟩:∃q,I5 e2 e1=q:=⟨_,rfl⟩;obtain⟨r2,hr2⟩:∃q,I5 e1 e2=q:=⟨_,rfl⟩;go_upto_region 2 with fail;rcases r1 with _|_
  ·refine AP [(.int .i64 1),.bool false,.bool false,(.int .i64 1),.bool true,.bool true,.bool true,.func (.func 91) #[] #[],.agg cs2.toArray,.agg cs1.toArray,.bool false,.bool false] ?_ fun w9 hg9=>?_
   ·simp only[nz];refine hP (hR (fun w' hg=>?_) ?_)
    ·go_simp;first|done|exact VU _
    refine hP (hP (hR (fun w' hg=>?_) ?_))
    ·go_simp;first|done|exact VU _
    refine hP (hP (hP (hM (hl:=HL.out.2) (fun w' hg=>HB2.out _ (HK.out.trans hg)) rX (hM (hl:=HL.out.1) (fun w' hg=>HB1.out _ (HK.out.trans hg)) rX (hR (fun w' hg=>?_) ?_)))))
    ·go_simp;(with_reducible refine(G9 HOK.out.2 HOK.out.1 (HT.out _ (HG.out.trans (HK.out.trans hg))).1 (HT.out _ (HG.out.trans (HK.out.trans hg))).2 (HE2.out _ (HG.out.trans (HK.out.trans hg))) (HE1.out _ (HG.out.trans (HK.out.trans hg))):Calls _ _ _ _ _).mono ?_);rintro e wq ⟨rfl,kq⟩;exact⟨by rw[hr1];try rfl,kq⟩
    exact hP AK
   simp only[nz];have HK2:=V3 (HK.out.trans hg9);clear hg9;go_upto_region 4 with fail;refine AP [(.int .i64 1),.bool false,.bool false,undef,undef,undef,undef,.bool false] ?_ fun w9 hg9=>?_
   ·simp only[nz];refine hP (hR (fun w' hg=>?_) ?_)
    ·go_simp;first|done|exact VU _
    exact hP (hS (hS (hS (hS (hP AK)))))
   simp only[nz];have HK3:=V3 (HK2.out.trans hg9);go_wp2_with(first|(refine lM (.tmp 5) (HB2.out _ HK3.out) rX ?_ (hl:=HL.out.2))|(refine sN (.tmp 6) (.tmp 30) cs2 (HB3.out.grew HK3.out) rX ?_ (hl:=HL.out.2) (h1:=HO.out.2);intro w8 hb8 k8 d8)|(refine sN (.tmp 6) (.tmp 31) (AJ 0 0) (HB3.out.grew HK3.out) rX ?_;intro w8 hb8 k8 d8)|fail);refine rT rX hb8 ?_;exact B2 (by unfold CA;simp[hr1,hr2]) (HG.out.trans HK3.out) k8
  refine AP [(.int .i64 1),.bool false,.bool false,(.int .i64 1),.bool true,.bool true,.bool true,.func (.func 91) #[] #[],.agg cs2.toArray,.agg cs1.toArray,.bool true,.bool true] ?_ fun w9 hg9=>?_
  ·simp only[nz];refine hP (hR (fun w' hg=>?_) ?_)
   ·go_simp;first|done|exact VU _
   refine hP (hP (hR (fun w' hg=>?_) ?_))
   ·go_simp;first|done|exact VU _
   refine hP (hP (hP (hM (hl:=HL.out.2) (fun w' hg=>HB2.out _ (HK.out.trans hg)) rX (hM (hl:=HL.out.1) (fun w' hg=>HB1.out _ (HK.out.trans hg)) rX (hR (fun w' hg=>?_) ?_)))))
   ·go_simp;(with_reducible refine(G9 HOK.out.2 HOK.out.1 (HT.out _ (HG.out.trans (HK.out.trans hg))).1 (HT.out _ (HG.out.trans (HK.out.trans hg))).2 (HE2.out _ (HG.out.trans (HK.out.trans hg))) (HE1.out _ (HG.out.trans (HK.out.trans hg))):Calls _ _ _ _ _).mono ?_);rintro e wq ⟨rfl,kq⟩;exact⟨by rw[hr1];try rfl,kq⟩
   exact hP AK
  simp only[nz];have HK3:=V3 (HK.out.trans hg9);go_wp2_with(first|(refine lM (.tmp 4) (HB1.out _ HK3.out) rX ?_ (hl:=HL.out.1))|(refine sN (.tmp 6) (.tmp 21) cs1 (HB3.out.grew HK3.out) rX ?_ (hl:=HL.out.1) (h1:=HO.out.1);intro w8 hb8 k8 d8)|fail);refine rT rX hb8 ?_ (hl:=HL.out.1);exact DH (by unfold CA;simp[hr1,hr2]) HQ.out (HR1.out _ (VU _)) (HG.out.trans HK3.out) k8
 have HF:=V3 (V5 f0 f1);have t0:(f==0)=false:=by rw[V4];exact f0
 clear f0 f1;obtain⟨r1,hr1⟩:∃q,I5 e2 e1=q:=⟨_,rfl⟩;obtain⟨r2,hr2⟩:∃q,I5 e1 e2=q:=⟨_,rfl⟩;go_upto_region 2 with fail;refine AP [(.int .i64 f),.bool false,.bool false,(.int .i64 f),.bool false,.bool false,.bool false,undef,undef,undef,undef,.bool false] ?_ fun w9 hg9=>?_
 ·simp only[nz];refine hP (hR (fun w' hg=>?_) ?_)
  ·go_simp;first|done|exact VU _|exact⟨HF.out.1,VU _⟩|exact⟨HF.out.2,VU _⟩
  refine hP (hP (hR (fun w' hg=>?_) ?_))
  ·go_simp;first|done|exact VU _|exact⟨HF.out.1,VU _⟩|exact⟨HF.out.2,VU _⟩
  exact hP (hP (hS (hS (hS (hS (hP AK))))))
 simp only[nz];have HK2:=V3 (HK.out.trans hg9);clear hg9;go_upto_region 4 with fail;refine AP [(.int .i64 f),.bool false,.bool false,undef,undef,undef,undef,.bool false] ?_ fun w9 hg9=>?_
 ·simp only[nz];refine hP (hR (fun w' hg=>?_) ?_)
  ·go_simp;first|done|exact VU _|exact⟨HF.out.1,VU _⟩|exact⟨HF.out.2,VU _⟩
  exact hP (hS (hS (hS (hS (hP AK)))))
 simp only[nz];have HK3:=V3 (HK2.out.trans hg9);go_wp2_with(first|(refine lM (.tmp 5) (HB2.out _ HK3.out) rX ?_ (hl:=HL.out.2))|(refine sN (.tmp 6) (.tmp 30) cs2 (HB3.out.grew HK3.out) rX ?_ (hl:=HL.out.2) (h1:=HO.out.2);intro w8 hb8 k8 d8)|(refine sN (.tmp 6) (.tmp 31) (AJ 0 0) (HB3.out.grew HK3.out) rX ?_;intro w8 hb8 k8 d8)|fail);refine rT rX hb8 ?_;exact B2 (by unfold CA;simp[HF.out.1,HF.out.2,hr1,hr2]) (HG.out.trans HK3.out) k8
def Cq (f:Int) (e1 e2:Ex):Option Ex:=if f=1∧Fw e1 e2=true∧BJ e1=false then some (Ax 2 e1 (BB 0 1))else none
theorem NS {f:Int} {e1 e2:Ex} (h1:CM e1) (h2:CM e2) {Q:Nat→Prop} {w:World} {cs1 cs2:List Value} (hwt:DI w) (hot:EB w) (hq:∀b,Q b→b<w.heap.size) (hr1:AZ w Q e1 cs1) (hr2:AZ w Q e2 cs2):
  Calls Tryz.prog 60 #[.int .i64 f,.agg cs1.toArray,.agg cs2.toArray] w (CU (Cq f e1 e2) Q w):=by
 have HQ:=V3 hq;have HR1:=V3 (fun w' (g:A4 w w')=>hr1.grewQ hq g);have HR2:=V3 (fun w' (g:A4 w w')=>hr2.grewQ hq g);have HE1:=V3 (fun w' (g:A4 w w')=>AZ.toB (fun b hb=>VA (hq b hb) g.size) _ _ (hr1.grewQ hq g));have HE2:=V3 (fun w' (g:A4 w w')=>AZ.toB (fun b hb=>VA (hq b hb) g.size) _ _ (hr2.grewQ hq g));have HL:=V3 (V5 hr1.len hr2.len);have HO:=V3 (V5 (hr1.one_ hq) (hr2.one_ hq));have HT:=V3 (fun w' (g:A4 w w')=>V5 (hwt.grew g) (hot.keep g (fun h=>h)));have HOK:=V3 (V5 h1 h2);obtain⟨hb1,hb2,hb3,hG⟩:=Ci w 29 29 29 cs1.toArray cs2.toArray (AJ 0 0).toArray;clear hq hr1 hr2 h1 h2 hwt hot;go_enter Tryz.func60,Tryz.ntmps60;go_upto_region 1 with fail;change Code.wp _ _ _ _ (((w.alloc (.cells cs1.toArray 29)).alloc (.cells cs2.toArray 29)).alloc (.cells (AJ 0 0).toArray 29));generalize ((w.alloc (.cells cs1.toArray 29)).alloc (.cells cs2.toArray 29)).alloc (.cells (AJ 0 0).toArray 29)=w1 at*;have HB1:=V3 (show ∀w',A4 w1 w'→w'.rangeAt w.heap.size 0 cs1 from fun w' g=>(hb1.grew g).rangeN 0 _ (by simp));have HB2:=V3 (show ∀w',A4 w1 w'→w'.rangeAt (w.heap.size+1) 0 cs2 from fun w' g=>(hb2.grew g).rangeN 0 _ (by simp));have HB3:=V3 hb3;have HG:=V3 hG;have HK:=V3 (VU w1);clear hb1 hb2 hb3 hG;have HS:=V3 (show w.heap.size+3≤w1.heap.size from HB3.out.lt);obtain⟨va1,va2,va3,hca, -⟩:=(HR1.out _ (VU _)).open_;have HC1:=V3 hca;clear hca;obtain⟨q,hq⟩:∃q,Fw e1 e2=q:=⟨_,rfl⟩;obtain⟨r,hr⟩:∃q,BJ e1=q:=⟨_,rfl⟩;by_cases f1:f=1
 ·subst f1;rcases q with _|_
  ·refine AP [(.int .i64 1),.bool false,.bool false,.agg cs1.toArray,.agg cs2.toArray,.bool false,.bool true,.bool true,.bool true,undef,undef,.bool true] ?_ fun w9 hg9=>?_
   ·simp only[nz];refine hP (hR (fun w' hg=>?_) ?_)
    ·go_simp;first|done|exact VU _|exact⟨HF.out,VU _⟩
    refine hP (hM (hl:=HL.out.1) (fun w' hg=>HB1.out _ (HK.out.trans hg)) rX (hM (hl:=HL.out.2) (fun w' hg=>HB2.out _ (HK.out.trans hg)) rX (hR (fun w' hg=>?_) ?_)))
    ·go_simp;(with_reducible refine(Hm HOK.out.1 HOK.out.2 (HE1.out _ (HG.out.trans (HK.out.trans hg))) (HE2.out _ (HG.out.trans (HK.out.trans hg))):Calls _ _ _ _ _).mono ?_);rintro e wq ⟨rfl,kq⟩;exact⟨by rw[hq];try rfl,kq⟩
    exact hP (hP (hP (hS (hS (hP AK)))))
   simp only[nz];have HK3:=V3 (HK.out.trans hg9);go_wp2_with(first|((refine sN (.tmp 6) (.tmp 21) (AJ 0 0) (HB3.out.grew HK3.out) rX ?_;intro w8 hb8 k8 d8))|fail);refine rT rX hb8 ?_;exact B2 (by unfold Cq;simp[hq,hr]) (HG.out.trans HK3.out) k8
  rcases r with _|_
  ·refine AP [(.int .i64 1),.bool false,.bool false,.agg cs1.toArray,.agg cs2.toArray,.bool true,.bool false,.bool false,.bool false,.agg cs1.toArray,.bool false,.bool false] ?_ fun w9 hg9=>?_
   ·simp only[nz];refine hP (hR (fun w' hg=>?_) ?_)
    ·go_simp;first|done|exact VU _|exact⟨HF.out,VU _⟩
    refine hP (hM (hl:=HL.out.1) (fun w' hg=>HB1.out _ (HK.out.trans hg)) rX (hM (hl:=HL.out.2) (fun w' hg=>HB2.out _ (HK.out.trans hg)) rX (hR (fun w' hg=>?_) ?_)))
    ·go_simp;(with_reducible refine(Hm HOK.out.1 HOK.out.2 (HE1.out _ (HG.out.trans (HK.out.trans hg))) (HE2.out _ (HG.out.trans (HK.out.trans hg))):Calls _ _ _ _ _).mono ?_);rintro e wq ⟨rfl,kq⟩;exact⟨by rw[hq];try rfl,kq⟩
    refine hP (hP (hP (hM (hl:=HL.out.1) (fun w' hg=>HB1.out _ (HK.out.trans hg)) rX (hR (fun w' hg=>?_) ?_))))
    ·go_simp;(with_reducible refine(Qo HOK.out.1 (HE1.out _ (HG.out.trans (HK.out.trans hg))):Calls _ _ _ _ _).mono ?_);rintro e wq ⟨rfl,kq⟩;exact⟨by rw[hr];try rfl,kq⟩
    exact hP AK
   simp only[nz];have HK3:=V3 (HK.out.trans hg9);go_wp2_with(first|(refine sN (.tmp 8) (.tmp 23) (AJ 0 1) (VW w9 29 _) rX ?_ (us:=(AJ 0 0));intro w6 hb6 k6 d6;have HK4:=V3 (HK3.out.trans (VV ((VU w9).alloc (.cells (AJ 0 0).toArray 29)) k6 (fun i hi e=>by omega)));clear k6 d6)|(refine lM (.tmp 4) (HB1.out _ HK4.out) rX ?_ (hl:=HL.out.1))|(refine lN (.tmp 8) hb6 rX ?_)|((with_reducible refine En 27 2 #[(0,.tmp 24),(1,.tmp 25)] rfl ?_);refine Dz (ea:=e1) (eb:=BB 0 1) rfl (.tmp 24) (.tmp 25) rfl (by rw[←HC1.out];rfl) (by rfl) ?_;intro w7 hbk g7;have HBK:=V3 hbk;have HG7:=V3 g7;clear hbk g7)|(refine sN (.tmp 6) (.tmp 27) (Gm 2 w6.heap.size) (HB3.out.grew (HK4.out.trans HG7.out)) rX ?_;intro w8 hb8 k8 d8)|fail);refine rT rX hb8 ?_;have g8:A4 w w8:=VV (HG.out.trans (HK4.out.trans HG7.out)) k8 fun i hi e=>by omega
   have hz:=(HG.out.trans HK4.out).size;have hz1:=HS.out;have hz4:=HK4.out.size;have hbk:=HBK.out;rw[←HC1.out]at hbk;have hlt:=hbk.lt;have hz8:=k8.size;rw[show Cq 1 e1 e2=some (Ax 2 e1 (BB 0 1))from by unfold Cq;simp[hq,hr]];refine⟨Gm 2 w6.heap.size,rfl,?_,g8⟩;refine Fq ?_ ?_ (.inr ⟨hz,by omega⟩) (hbk.keep k8 (by omega)) HL.out.1 rfl
   ·exact AZ.keep (S:=fun _=>False) (fun b hb=>⟨HQ.out b hb,fun h=>h,.inl hb⟩) g8 _ _ (HR1.out _ (VU _))
   exact AZ.mk_ (e:=BB 0 1) (Ba.nil _ _ _) (Ba.nil _ _ _) (EX.nil _ _)
  refine AP [(.int .i64 1),.bool false,.bool false,.agg cs1.toArray,.agg cs2.toArray,.bool true,.bool false,.bool false,.bool false,.agg cs1.toArray,.bool true,.bool true] ?_ fun w9 hg9=>?_
  ·simp only[nz];refine hP (hR (fun w' hg=>?_) ?_)
   ·go_simp;first|done|exact VU _|exact⟨HF.out,VU _⟩
   refine hP (hM (hl:=HL.out.1) (fun w' hg=>HB1.out _ (HK.out.trans hg)) rX (hM (hl:=HL.out.2) (fun w' hg=>HB2.out _ (HK.out.trans hg)) rX (hR (fun w' hg=>?_) ?_)))
   ·go_simp;(with_reducible refine(Hm HOK.out.1 HOK.out.2 (HE1.out _ (HG.out.trans (HK.out.trans hg))) (HE2.out _ (HG.out.trans (HK.out.trans hg))):Calls _ _ _ _ _).mono ?_);rintro e wq ⟨rfl,kq⟩;exact⟨by rw[hq];try rfl,kq⟩
   refine hP (hP (hP (hM (hl:=HL.out.1) (fun w' hg=>HB1.out _ (HK.out.trans hg)) rX (hR (fun w' hg=>?_) ?_))))
   ·go_simp;(with_reducible refine(Qo HOK.out.1 (HE1.out _ (HG.out.trans (HK.out.trans hg))):Calls _ _ _ _ _).mono ?_);rintro e wq ⟨rfl,kq⟩;exact⟨by rw[hr];try rfl,kq⟩
   exact hP AK
  simp only[nz];have HK3:=V3 (HK.out.trans hg9);go_wp2_with(first|((refine sN (.tmp 6) (.tmp 21) (AJ 0 0) (HB3.out.grew HK3.out) rX ?_;intro w8 hb8 k8 d8))|fail);refine rT rX hb8 ?_;exact B2 (by unfold Cq;simp[hq,hr]) (HG.out.trans HK3.out) k8
 have HF:=V3 f1;clear f1;refine AP [(.int .i64 f),.bool true,.bool true,undef,undef,undef,undef,.bool true,.bool true,undef,undef,.bool true] ?_ fun w9 hg9=>?_
 ·simp only[nz];refine hP (hR (fun w' hg=>?_) ?_)
  ·go_simp;first|done|exact VU _|exact⟨HF.out,VU _⟩
  exact hP (hS (hS (hS (hS (hP (hP (hS (hS (hP AK)))))))))
 simp only[nz];have HK3:=V3 (HK.out.trans hg9);go_wp2_with(first|((refine sN (.tmp 6) (.tmp 21) (AJ 0 0) (HB3.out.grew HK3.out) rX ?_;intro w8 hb8 k8 d8))|fail);refine rT rX hb8 ?_;exact B2 (by unfold Cq;simp[HF.out,hq,hr]) (HG.out.trans HK3.out) k8
end Go.Proofs.YthpflelgbadkcaaGreatDoor
