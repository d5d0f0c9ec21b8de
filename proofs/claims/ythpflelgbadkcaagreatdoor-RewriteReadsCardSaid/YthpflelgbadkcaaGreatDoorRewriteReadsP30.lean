/- package rewrite: the rule cancelProduct. -/
import Derived.Test.YthpflelgbadkcaaGreatDoorRewriteReadsP01
import Derived.Test.YthpflelgbadkcaaGreatDoorRewriteReadsP29
set_option maxRecDepth 100000
set_option maxHeartbeats 12800000
set_option linter.unusedVariables false
set_option linter.unusedSimpArgs false
namespace Go.Proofs.YthpflelgbadkcaaGreatDoor
open Go.RowKit Pl
def GU (w:World) (Q:Nat→Prop) (z:Nat) (ea eb:Ex) (ca cb:List Value) (wc:World):Prop:=A5 w wc∧Ag wc z 29 ca.toArray∧Ag wc (z+1) 29 cb.toArray∧AW wc Q ea ca∧AW wc Q eb cb∧(∀b,Q b→b<w.heap.size)∧w.heap.size+1+1<z
section
variable {w:World} {Q:Nat→Prop} {z:Nat} {ea eb:Ex} {ca cb:List Value} {wc w':World}
theorem GU.grew (h:GU w Q z ea eb ca cb wc) (g:A5 wc w'):GU w Q z ea eb ca cb w':=⟨h.1.trans g,h.2.1.grew g,h.2.2.1.grew g,h.2.2.2.1.grewQ (fun b hb=>SE (h.2.2.2.2.2.1 b hb) h.1.size) g,h.2.2.2.2.1.grewQ (fun b hb=>SE (h.2.2.2.2.2.1 b hb) h.1.size) g,h.2.2.2.2.2⟩
theorem GU.rd1 (h:GU w Q z ea eb ca cb wc):BZ wc wc.heap.size ea ca:=AW.toB (fun b hb=>SE (h.2.2.2.2.2.1 b hb) h.1.size) _ _ h.2.2.2.1
theorem GU.rd2 (h:GU w Q z ea eb ca cb wc):BZ wc wc.heap.size eb cb:=AW.toB (fun b hb=>SE (h.2.2.2.2.2.1 b hb) h.1.size) _ _ h.2.2.2.2.1
theorem GU.row1 (h:GU w Q z ea eb ca cb wc):wc.rangeAt z 0 ca:=h.2.1.rangeN 0 _ (by simp)
theorem GU.row2 (h:GU w Q z ea eb ca cb wc):wc.rangeAt (z+1) 0 cb:=h.2.2.1.rangeN 0 _ (by simp)
theorem GU.len (h:GU w Q z ea eb ca cb wc):ca.length=11∧cb.length=11:=⟨h.2.2.2.1.len,h.2.2.2.2.1.len⟩
theorem GU.one (h:GU w Q z ea eb ca cb wc):(∀v∈ca,v.oneCell'=true)∧(∀v∈cb,v.oneCell'=true):=⟨h.2.2.2.1.one_ (fun b hb=>SE (h.2.2.2.2.2.1 b hb) h.1.size),h.2.2.2.2.1.one_ (fun b hb=>SE (h.2.2.2.2.2.1 b hb) h.1.size)⟩
theorem GU.fin1 (h:GU w Q z ea eb ca cb wc) {r:Option Ex} (hr:r=some ea) (k:AC (fun i=>i=w.heap.size+1+1) wc w'):CO r Q w (.returned (.tuple #[.agg ca.toArray,.bool true])) w':=by
 subst hr;have g8:A5 w w':=Sb h.1 k fun i hi e=>by omega
 exact⟨ca,rfl,AW.keep (S:=fun i=>i=w.heap.size+1+1) (fun b hb=>⟨SE (h.2.2.2.2.2.1 b hb) h.1.size,fun e=>by have:=h.2.2.2.2.2.1 b hb;omega,.inl hb⟩) k _ _ h.2.2.2.1,g8⟩
theorem GU.fin2 (h:GU w Q z ea eb ca cb wc) {r:Option Ex} (hr:r=some eb) (k:AC (fun i=>i=w.heap.size+1+1) wc w'):CO r Q w (.returned (.tuple #[.agg cb.toArray,.bool true])) w':=by
 subst hr;have g8:A5 w w':=Sb h.1 k fun i hi e=>by omega
 exact⟨cb,rfl,AW.keep (S:=fun i=>i=w.heap.size+1+1) (fun b hb=>⟨SE (h.2.2.2.2.2.1 b hb) h.1.size,fun e=>by have:=h.2.2.2.2.2.1 b hb;omega,.inl hb⟩) k _ _ h.2.2.2.2.1,g8⟩
end
def B5 (f:Int) (e1 e2:Ex):Option Ex:=
 if f=3∧Gk e1 2=true∧Nx (pt2 e1 2) e2=true then some (pt1 e1 2)else if f=3∧Gk e1 2=true∧Nx (pt1 e1 2) e2=true then some (pt2 e1 2)
 else if f=2∧Gk e1 3=true∧Nx (pt2 e1 3) e2=true then some (pt1 e1 3)else if f=2∧Gk e2 3=true∧Nx (pt2 e2 3) e1=true then some (pt1 e2 3)else none
theorem Gf {f:Int} {e1 e2:Ex} (h1:CG e1) (h2:CG e2) {Q:Nat→Prop} {w:World} {cs1 cs2:List Value} (hwt:D5 w) (hot:Dc w) (hq:∀b,Q b→b<w.heap.size) (hr1:AW w Q e1 cs1) (hr2:AW w Q e2 cs2):
  Calls Tryz.prog 59 #[.int .i64 f,.agg cs1.toArray,.agg cs2.toArray] w (CO (B5 f e1 e2) Q w):=by
 have HQ:=S9 hq;have HR1:=S9 (fun w' (g:A5 w w')=>hr1.grewQ hq g);have HR2:=S9 (fun w' (g:A5 w w')=>hr2.grewQ hq g);have HE1:=S9 (fun w' (g:A5 w w')=>AW.toB (fun b hb=>SE (hq b hb) g.size) _ _ (hr1.grewQ hq g));have HE2:=S9 (fun w' (g:A5 w w')=>AW.toB (fun b hb=>SE (hq b hb) g.size) _ _ (hr2.grewQ hq g));have HL:=S9 (SC hr1.len hr2.len);have HO:=S9 (SC (hr1.one_ hq) (hr2.one_ hq));have HT:=S9 (fun w' (g:A5 w w')=>SC (hwt.grew g) (hot.keep g (fun h=>h)));have HOK:=S9 (SC h1 h2);obtain⟨hb1,hb2,hb3,hG⟩:=Cb w 29 29 29 cs1.toArray cs2.toArray (AH 0 0).toArray;clear hq hr1 hr2 h1 h2 hwt hot;go_enter Tryz.func59,Tryz.ntmps59;go_upto_region 1 with fail;change Code.wp _ _ _ _ (((w.alloc (.cells cs1.toArray 29)).alloc (.cells cs2.toArray 29)).alloc (.cells (AH 0 0).toArray 29));generalize ((w.alloc (.cells cs1.toArray 29)).alloc (.cells cs2.toArray 29)).alloc (.cells (AH 0 0).toArray 29)=w1 at*;have HB1:=S9 (show ∀w',A5 w1 w'→w'.rangeAt w.heap.size 0 cs1 from fun w' g=>(hb1.grew g).rangeN 0 _ (by simp));have HB2:=S9 (show ∀w',A5 w1 w'→w'.rangeAt (w.heap.size+1) 0 cs2 from fun w' g=>(hb2.grew g).rangeN 0 _ (by simp));have HB3:=S9 hb3;have HG:=S9 hG;have HK:=S9 (Sa w1);clear hb1 hb2 hb3 hG;have HPQ1:=S9 (fun(op:Int) w' (g:A5 w w')=>GX HOK.out.1 op (Q:=Q) (fun b hb=>SE (HQ.out b hb) g.size) (HR1.out w' g));have HPQ2:=S9 (fun(op:Int) w' (g:A5 w w')=>GX HOK.out.2 op (Q:=Q) (fun b hb=>SE (HQ.out b hb) g.size) (HR2.out w' g));by_cases f3:f=3
 ·subst f3;go_upto_region 3 with fail;go_upto_region 4 with(first|((with_reducible refine AG 29 (.tmp 4) rfl ?_);refine wpList_load_mid rfl 29 (.tmp 4) rfl (w.heap.size) 0 rfl cs1 _ (HB1.out _ HK.out) Tryz.underlying29 rfl (by rw[HL.out.1];exact AD) ?_)|(go_at_call 89;(with_reducible refine(HPQ1.out 2 _ (HG.out.trans HK.out)).mono ?_);rintro e3 wa1 ⟨ca1,cb1,rfl,hca,hcb,ka⟩;obtain⟨y1,y2,y3⟩:=Bz wa1 29 29 (AH 0 0).toArray (AH 0 0).toArray;have hla:=hca.len;have hlb:=hcb.len;have hzs:=SH (HG.out.trans HK.out).size ka.size;have hoa:=hca.one_ (fun b hb=>SE (HQ.out b hb) hzs);have hob:=hcb.one_ (fun b hb=>SE (HQ.out b hb) hzs))|((with_reducible refine AF 29 (.tmp 9) (.tmp 23) rfl ?_);refine Ar 29 (.tmp 9) (.tmp 23) (wa1.heap.size) ca1 (AH 0 0) 29 (by rw[hla];exact AD) (by rw[hla];rfl) hoa rfl rfl rfl rfl y1 ?_;intro wb1 hb5 k5 d5;have hb5':=y2.keep k5 (by omega))|((with_reducible refine AF 29 (.tmp 10) (.tmp 24) rfl ?_);refine Ar 29 (.tmp 10) (.tmp 24) (wa1.heap.size+1) cb1 (AH 0 0) 29 (by rw[hlb];exact AD) (by rw[hlb];rfl) hob rfl rfl rfl rfl hb5' ?_;intro wc1 hb6 k6 d6;have hb56:=hb5.keep k6 (by omega)));have hac:A5 wa1 wc1:=Sb (Sb y3 k5 fun i hi e=>by omega) k6 fun i hi e=>by omega
  have hzw:w.heap.size+1+1<wa1.heap.size:=SE HB3.out.lt (HK.out.trans ka).size;have HP:=S9 (show GU w Q wa1.heap.size (pt1 e1 2) (pt2 e1 2) ca1 cb1 wc1 from⟨(HG.out.trans HK.out).trans (ka.trans hac),hb56,hb6,hca.grewQ (fun b hb=>SE (HQ.out b hb) hzs) hac,hcb.grewQ (fun b hb=>SE (HQ.out b hb) hzs) hac,HQ.out,hzw⟩);replace HK:=S9 (HK.out.trans (ka.trans hac));clear hb56 hb6 hb5 hb5' y1 y2 y3 k5 k6 d5 d6 ka hac hzs hzw hca hcb hla hlb hoa hob;generalize wa1.heap.size=z1 at*;obtain⟨o,ho⟩:∃q,Gk e1 2=q:=⟨_,rfl⟩;simp only[ho];obtain⟨r1,hr1⟩:∃q,Nx (pt2 e1 2) e2=q:=⟨_,rfl⟩;obtain⟨r2,hr2⟩:∃q,Nx (pt1 e1 2) e2=q:=⟨_,rfl⟩;rcases o with _|_
  ·go_wp2_with(((with_reducible refine AF 29 (.tmp 6) (.tmp 67) rfl ?_);refine Ar 29 (.tmp 6) (.tmp 67) (w.heap.size+1+1) (AH 0 0) (AH 0 0) 29 AD rfl (AX _ _) rfl rfl rfl rfl (HB3.out.grew HK.out) ?_;intro w8 hb8 k8 d8));refine bodyPost_ret (AR rfl rfl rfl AD Tryz.underlying29 rfl hb8) rfl ?_;exact BC (by unfold B5;simp[ho]) (HG.out.trans HK.out) k8
  go_upto_region 5 with fail;rcases r1 with _|_
  ·refine AK [.func (.func 90) #[] #[],.agg cb1.toArray,.agg cs2.toArray,.bool false] _ (by kernel_rfl) (by kernel_rfl) rfl ?sH ?sT
   case sH=>
    simp only[List.toList_toArray,List.append_eq,List.cons_append,List.nil_append,AI,Act.put,List.setIfInBounds_toArray,List.set_cons_zero,List.set_cons_succ];refine A4 (by kernel_rfl) (fun w' hg=>?_) ?_
    ·go_simp;exact Sa _
    refine A4 (by kernel_rfl) (fun w' hg=>?_) ?_
    ·refine wp_load_mid 29 (.tmp 10) rfl (z1+1) 0 rfl cb1 _ ((HP.out.grew hg).row2) Tryz.underlying29 rfl (by rw[HP.out.len.2];exact AD) ?_;exact⟨rfl,Sa _⟩
    refine A4 (by kernel_rfl) (fun w' hg=>?_) ?_
    ·refine wp_load_mid 29 (.tmp 5) rfl (w.heap.size+1) 0 rfl cs2 _ (HB2.out _ (HK.out.trans hg)) Tryz.underlying29 rfl (by rw[HL.out.2];exact AD) ?_;exact⟨rfl,Sa _⟩
    refine A4 (by kernel_rfl) (fun w' hg=>?_) ?_
    ·go_simp;(with_reducible refine(DK (HOK.out.1.pt2 2) HOK.out.2 (HP.out.grew hg).rd2 (HE2.out _ (HG.out.trans (HK.out.trans hg))):Calls _ _ _ _ _).mono ?_);rintro e wq ⟨rfl,kq⟩;exact⟨by rw[hr1];try rfl,kq⟩
    exact AQ
   case sT=>
    intro w9 hg9;simp only[List.toList_toArray,List.append_eq,List.cons_append,List.nil_append,AI,Act.put,List.setIfInBounds_toArray,List.set_cons_zero,List.set_cons_succ];replace HP:=S9 (HP.out.grew hg9);replace HK:=S9 (HK.out.trans hg9);clear hg9;go_upto_region 7 with fail;rcases r2 with _|_
    ·refine AK [.func (.func 90) #[] #[],.agg ca1.toArray,.agg cs2.toArray,.bool false] _ (by kernel_rfl) (by kernel_rfl) rfl ?sH ?sT
     case sH=>
      simp only[List.toList_toArray,List.append_eq,List.cons_append,List.nil_append,AI,Act.put,List.setIfInBounds_toArray,List.set_cons_zero,List.set_cons_succ];refine A4 (by kernel_rfl) (fun w' hg=>?_) ?_
      ·go_simp;exact Sa _
      refine A4 (by kernel_rfl) (fun w' hg=>?_) ?_
      ·refine wp_load_mid 29 (.tmp 9) rfl (z1) 0 rfl ca1 _ ((HP.out.grew hg).row1) Tryz.underlying29 rfl (by rw[HP.out.len.1];exact AD) ?_;exact⟨rfl,Sa _⟩
      refine A4 (by kernel_rfl) (fun w' hg=>?_) ?_
      ·refine wp_load_mid 29 (.tmp 5) rfl (w.heap.size+1) 0 rfl cs2 _ (HB2.out _ (HK.out.trans hg)) Tryz.underlying29 rfl (by rw[HL.out.2];exact AD) ?_;exact⟨rfl,Sa _⟩
      refine A4 (by kernel_rfl) (fun w' hg=>?_) ?_
      ·go_simp;(with_reducible refine(DK (HOK.out.1.pt1 2) HOK.out.2 (HP.out.grew hg).rd1 (HE2.out _ (HG.out.trans (HK.out.trans hg))):Calls _ _ _ _ _).mono ?_);rintro e wq ⟨rfl,kq⟩;exact⟨by rw[hr2];try rfl,kq⟩
      exact AQ
     case sT=>
      intro w9 hg9;simp only[List.toList_toArray,List.append_eq,List.cons_append,List.nil_append,AI,Act.put,List.setIfInBounds_toArray,List.set_cons_zero,List.set_cons_succ];replace HP:=S9 (HP.out.grew hg9);replace HK:=S9 (HK.out.trans hg9);clear hg9;go_wp2_with(((with_reducible refine AF 29 (.tmp 6) (.tmp 67) rfl ?_);refine Ar 29 (.tmp 6) (.tmp 67) (w.heap.size+1+1) (AH 0 0) (AH 0 0) 29 AD rfl (AX _ _) rfl rfl rfl rfl (HB3.out.grew HK.out) ?_;intro w8 hb8 k8 d8));refine bodyPost_ret (AR rfl rfl rfl AD Tryz.underlying29 rfl hb8) rfl ?_;exact BC (by unfold B5;simp[ho,hr1,hr2]) (HG.out.trans HK.out) k8
    refine AK [.func (.func 90) #[] #[],.agg ca1.toArray,.agg cs2.toArray,.bool true] _ (by kernel_rfl) (by kernel_rfl) rfl ?sH ?sT
    case sH=>
     simp only[List.toList_toArray,List.append_eq,List.cons_append,List.nil_append,AI,Act.put,List.setIfInBounds_toArray,List.set_cons_zero,List.set_cons_succ];refine A4 (by kernel_rfl) (fun w' hg=>?_) ?_
     ·go_simp;exact Sa _
     refine A4 (by kernel_rfl) (fun w' hg=>?_) ?_
     ·refine wp_load_mid 29 (.tmp 9) rfl (z1) 0 rfl ca1 _ ((HP.out.grew hg).row1) Tryz.underlying29 rfl (by rw[HP.out.len.1];exact AD) ?_;exact⟨rfl,Sa _⟩
     refine A4 (by kernel_rfl) (fun w' hg=>?_) ?_
     ·refine wp_load_mid 29 (.tmp 5) rfl (w.heap.size+1) 0 rfl cs2 _ (HB2.out _ (HK.out.trans hg)) Tryz.underlying29 rfl (by rw[HL.out.2];exact AD) ?_;exact⟨rfl,Sa _⟩
     refine A4 (by kernel_rfl) (fun w' hg=>?_) ?_
     ·go_simp;(with_reducible refine(DK (HOK.out.1.pt1 2) HOK.out.2 (HP.out.grew hg).rd1 (HE2.out _ (HG.out.trans (HK.out.trans hg))):Calls _ _ _ _ _).mono ?_);rintro e wq ⟨rfl,kq⟩;exact⟨by rw[hr2];try rfl,kq⟩
     exact AQ
    case sT=>
     intro w9 hg9;simp only[List.toList_toArray,List.append_eq,List.cons_append,List.nil_append,AI,Act.put,List.setIfInBounds_toArray,List.set_cons_zero,List.set_cons_succ];replace HP:=S9 (HP.out.grew hg9);replace HK:=S9 (HK.out.trans hg9);clear hg9;go_wp2_with(first|((with_reducible refine AG 29 (.tmp 10) rfl ?_);refine wpList_load_mid rfl 29 (.tmp 10) rfl (z1+1) 0 rfl cb1 _ HP.out.row2 Tryz.underlying29 rfl (by rw[HP.out.len.2];exact AD) ?_)|((with_reducible refine AF 29 (.tmp 6) (.tmp 36) rfl ?_);refine Ar 29 (.tmp 6) (.tmp 36) (w.heap.size+1+1) cb1 (AH 0 0) 29 (by rw[HP.out.len.2];exact AD) (by rw[HP.out.len.2];rfl) HP.out.one.2 rfl rfl rfl rfl (HB3.out.grew HK.out) ?_;intro w8 hb8 k8 d8));refine bodyPost_ret (AR rfl rfl rfl (by rw[HP.out.len.2];exact AD) Tryz.underlying29 rfl hb8) rfl ?_;exact HP.out.fin2 (by unfold B5;simp[ho,hr1,hr2]) k8
  refine AK [.func (.func 90) #[] #[],.agg cb1.toArray,.agg cs2.toArray,.bool true] _ (by kernel_rfl) (by kernel_rfl) rfl ?sH ?sT
  case sH=>
   simp only[List.toList_toArray,List.append_eq,List.cons_append,List.nil_append,AI,Act.put,List.setIfInBounds_toArray,List.set_cons_zero,List.set_cons_succ];refine A4 (by kernel_rfl) (fun w' hg=>?_) ?_
   ·go_simp;exact Sa _
   refine A4 (by kernel_rfl) (fun w' hg=>?_) ?_
   ·refine wp_load_mid 29 (.tmp 10) rfl (z1+1) 0 rfl cb1 _ ((HP.out.grew hg).row2) Tryz.underlying29 rfl (by rw[HP.out.len.2];exact AD) ?_;exact⟨rfl,Sa _⟩
   refine A4 (by kernel_rfl) (fun w' hg=>?_) ?_
   ·refine wp_load_mid 29 (.tmp 5) rfl (w.heap.size+1) 0 rfl cs2 _ (HB2.out _ (HK.out.trans hg)) Tryz.underlying29 rfl (by rw[HL.out.2];exact AD) ?_;exact⟨rfl,Sa _⟩
   refine A4 (by kernel_rfl) (fun w' hg=>?_) ?_
   ·go_simp;(with_reducible refine(DK (HOK.out.1.pt2 2) HOK.out.2 (HP.out.grew hg).rd2 (HE2.out _ (HG.out.trans (HK.out.trans hg))):Calls _ _ _ _ _).mono ?_);rintro e wq ⟨rfl,kq⟩;exact⟨by rw[hr1];try rfl,kq⟩
   exact AQ
  case sT=>
   intro w9 hg9;simp only[List.toList_toArray,List.append_eq,List.cons_append,List.nil_append,AI,Act.put,List.setIfInBounds_toArray,List.set_cons_zero,List.set_cons_succ];replace HP:=S9 (HP.out.grew hg9);replace HK:=S9 (HK.out.trans hg9);clear hg9;go_wp2_with(first|((with_reducible refine AG 29 (.tmp 9) rfl ?_);refine wpList_load_mid rfl 29 (.tmp 9) rfl (z1) 0 rfl ca1 _ HP.out.row1 Tryz.underlying29 rfl (by rw[HP.out.len.1];exact AD) ?_)|((with_reducible refine AF 29 (.tmp 6) (.tmp 31) rfl ?_);refine Ar 29 (.tmp 6) (.tmp 31) (w.heap.size+1+1) ca1 (AH 0 0) 29 (by rw[HP.out.len.1];exact AD) (by rw[HP.out.len.1];rfl) HP.out.one.1 rfl rfl rfl rfl (HB3.out.grew HK.out) ?_;intro w8 hb8 k8 d8));refine bodyPost_ret (AR rfl rfl rfl (by rw[HP.out.len.1];exact AD) Tryz.underlying29 rfl hb8) rfl ?_;exact HP.out.fin1 (by unfold B5;simp[ho,hr1]) k8
 have t3:(f==3)=false:=by rw[SA];exact f3
 by_cases f2:f=2
 ·subst f2;go_upto_region 10 with fail;go_upto_region 11 with(first|((with_reducible refine AG 29 (.tmp 4) rfl ?_);refine wpList_load_mid rfl 29 (.tmp 4) rfl (w.heap.size) 0 rfl cs1 _ (HB1.out _ HK.out) Tryz.underlying29 rfl (by rw[HL.out.1];exact AD) ?_)|(go_at_call 89;(with_reducible refine(HPQ1.out 3 _ (HG.out.trans HK.out)).mono ?_);rintro e3 wa1 ⟨ca1,cb1,rfl,hca,hcb,ka⟩;obtain⟨y1,y2,y3⟩:=Bz wa1 29 29 (AH 0 0).toArray (AH 0 0).toArray;have hla:=hca.len;have hlb:=hcb.len;have hzs:=SH (HG.out.trans HK.out).size ka.size;have hoa:=hca.one_ (fun b hb=>SE (HQ.out b hb) hzs);have hob:=hcb.one_ (fun b hb=>SE (HQ.out b hb) hzs))|((with_reducible refine AF 29 (.tmp 12) (.tmp 42) rfl ?_);refine Ar 29 (.tmp 12) (.tmp 42) (wa1.heap.size) ca1 (AH 0 0) 29 (by rw[hla];exact AD) (by rw[hla];rfl) hoa rfl rfl rfl rfl y1 ?_;intro wb1 hb5 k5 d5;have hb5':=y2.keep k5 (by omega))|((with_reducible refine AF 29 (.tmp 13) (.tmp 43) rfl ?_);refine Ar 29 (.tmp 13) (.tmp 43) (wa1.heap.size+1) cb1 (AH 0 0) 29 (by rw[hlb];exact AD) (by rw[hlb];rfl) hob rfl rfl rfl rfl hb5' ?_;intro wc1 hb6 k6 d6;have hb56:=hb5.keep k6 (by omega)));have hac:A5 wa1 wc1:=Sb (Sb y3 k5 fun i hi e=>by omega) k6 fun i hi e=>by omega
  have hzw:w.heap.size+1+1<wa1.heap.size:=SE HB3.out.lt (HK.out.trans ka).size;have HP:=S9 (show GU w Q wa1.heap.size (pt1 e1 3) (pt2 e1 3) ca1 cb1 wc1 from⟨(HG.out.trans HK.out).trans (ka.trans hac),hb56,hb6,hca.grewQ (fun b hb=>SE (HQ.out b hb) hzs) hac,hcb.grewQ (fun b hb=>SE (HQ.out b hb) hzs) hac,HQ.out,hzw⟩);replace HK:=S9 (HK.out.trans (ka.trans hac));clear hb56 hb6 hb5 hb5' y1 y2 y3 k5 k6 d5 d6 ka hac hzs hzw hca hcb hla hlb hoa hob;generalize wa1.heap.size=z1 at*;obtain⟨o,ho⟩:∃q,Gk e1 3=q:=⟨_,rfl⟩;simp only[ho];obtain⟨r1,hr1⟩:∃q,Nx (pt2 e1 3) e2=q:=⟨_,rfl⟩;rcases o with _|_
  ·refine AK [.bool false,.bool false,undef,undef,undef,undef,.bool false] _ (by kernel_rfl) (by kernel_rfl) rfl ?sH ?sT
   case sH=>
    simp only[List.toList_toArray,List.append_eq,List.cons_append,List.nil_append,AI,Act.put,List.setIfInBounds_toArray,List.set_cons_zero,List.set_cons_succ];refine A4 (by kernel_rfl) (fun w' hg=>?_) ?_
    ·go_simp;exact Sa _
    refine A4 (by kernel_rfl) (fun w' hg=>?_) ?_
    ·go_simp;exact Sa _
    refine AA (by kernel_rfl) (by kernel_rfl) ?_;refine AA (by kernel_rfl) (by kernel_rfl) ?_;refine AA (by kernel_rfl) (by kernel_rfl) ?_;refine AA (by kernel_rfl) (by kernel_rfl) ?_;refine A4 (by kernel_rfl) (fun w' hg=>?_) ?_
    ·go_simp;exact Sa _
    exact AQ
   case sT=>
    intro w9 hg9;simp only[List.toList_toArray,List.append_eq,List.cons_append,List.nil_append,AI,Act.put,List.setIfInBounds_toArray,List.set_cons_zero,List.set_cons_succ];replace HP:=S9 (HP.out.grew hg9);replace HK:=S9 (HK.out.trans hg9);clear hg9;clear HP;go_upto_region 13 with fail;go_upto_region 14 with(first|((with_reducible refine AG 29 (.tmp 5) rfl ?_);refine wpList_load_mid rfl 29 (.tmp 5) rfl (w.heap.size+1) 0 rfl cs2 _ (HB2.out _ HK.out) Tryz.underlying29 rfl (by rw[HL.out.2];exact AD) ?_)|(go_at_call 89;(with_reducible refine(HPQ2.out 3 _ (HG.out.trans HK.out)).mono ?_);rintro e3 wa2 ⟨ca2,cb2,rfl,hca,hcb,ka⟩;obtain⟨y1,y2,y3⟩:=Bz wa2 29 29 (AH 0 0).toArray (AH 0 0).toArray;have hla:=hca.len;have hlb:=hcb.len;have hzs:=SH (HG.out.trans HK.out).size ka.size;have hoa:=hca.one_ (fun b hb=>SE (HQ.out b hb) hzs);have hob:=hcb.one_ (fun b hb=>SE (HQ.out b hb) hzs))|((with_reducible refine AF 29 (.tmp 15) (.tmp 56) rfl ?_);refine Ar 29 (.tmp 15) (.tmp 56) (wa2.heap.size) ca2 (AH 0 0) 29 (by rw[hla];exact AD) (by rw[hla];rfl) hoa rfl rfl rfl rfl y1 ?_;intro wb2 hb5 k5 d5;have hb5':=y2.keep k5 (by omega))|((with_reducible refine AF 29 (.tmp 16) (.tmp 57) rfl ?_);refine Ar 29 (.tmp 16) (.tmp 57) (wa2.heap.size+1) cb2 (AH 0 0) 29 (by rw[hlb];exact AD) (by rw[hlb];rfl) hob rfl rfl rfl rfl hb5' ?_;intro wc2 hb6 k6 d6;have hb56:=hb5.keep k6 (by omega)));have hac:A5 wa2 wc2:=Sb (Sb y3 k5 fun i hi e=>by omega) k6 fun i hi e=>by omega
    have hzw:w.heap.size+1+1<wa2.heap.size:=SE HB3.out.lt (HK.out.trans ka).size;have HP:=S9 (show GU w Q wa2.heap.size (pt1 e2 3) (pt2 e2 3) ca2 cb2 wc2 from⟨(HG.out.trans HK.out).trans (ka.trans hac),hb56,hb6,hca.grewQ (fun b hb=>SE (HQ.out b hb) hzs) hac,hcb.grewQ (fun b hb=>SE (HQ.out b hb) hzs) hac,HQ.out,hzw⟩);replace HK:=S9 (HK.out.trans (ka.trans hac));clear hb56 hb6 hb5 hb5' y1 y2 y3 k5 k6 d5 d6 ka hac hzs hzw hca hcb hla hlb hoa hob;generalize wa2.heap.size=z2 at*;obtain⟨p,hp⟩:∃q,Gk e2 3=q:=⟨_,rfl⟩;simp only[hp];obtain⟨r2,hr2⟩:∃q,Nx (pt2 e2 3) e1=q:=⟨_,rfl⟩;rcases p with _|_
    ·refine AK [.bool false,.bool false,undef,undef,undef,undef,.bool false] _ (by kernel_rfl) (by kernel_rfl) rfl ?sH ?sT
     case sH=>
      simp only[List.toList_toArray,List.append_eq,List.cons_append,List.nil_append,AI,Act.put,List.setIfInBounds_toArray,List.set_cons_zero,List.set_cons_succ];refine A4 (by kernel_rfl) (fun w' hg=>?_) ?_
      ·go_simp;exact Sa _
      refine A4 (by kernel_rfl) (fun w' hg=>?_) ?_
      ·go_simp;exact Sa _
      refine AA (by kernel_rfl) (by kernel_rfl) ?_;refine AA (by kernel_rfl) (by kernel_rfl) ?_;refine AA (by kernel_rfl) (by kernel_rfl) ?_;refine AA (by kernel_rfl) (by kernel_rfl) ?_;refine A4 (by kernel_rfl) (fun w' hg=>?_) ?_
      ·go_simp;exact Sa _
      exact AQ
     case sT=>
      intro w9 hg9;simp only[List.toList_toArray,List.append_eq,List.cons_append,List.nil_append,AI,Act.put,List.setIfInBounds_toArray,List.set_cons_zero,List.set_cons_succ];replace HP:=S9 (HP.out.grew hg9);replace HK:=S9 (HK.out.trans hg9);clear hg9;go_wp2_with(((with_reducible refine AF 29 (.tmp 6) (.tmp 67) rfl ?_);refine Ar 29 (.tmp 6) (.tmp 67) (w.heap.size+1+1) (AH 0 0) (AH 0 0) 29 AD rfl (AX _ _) rfl rfl rfl rfl (HB3.out.grew HK.out) ?_;intro w8 hb8 k8 d8));refine bodyPost_ret (AR rfl rfl rfl AD Tryz.underlying29 rfl hb8) rfl ?_;exact BC (by unfold B5;simp[ho,hp]) (HG.out.trans HK.out) k8
    rcases r2 with _|_
    ·refine AK [.bool true,.bool true,.func (.func 90) #[] #[],.agg cb2.toArray,.agg cs1.toArray,.bool false,.bool false] _ (by kernel_rfl) (by kernel_rfl) rfl ?sH ?sT
     case sH=>
      simp only[List.toList_toArray,List.append_eq,List.cons_append,List.nil_append,AI,Act.put,List.setIfInBounds_toArray,List.set_cons_zero,List.set_cons_succ];refine A4 (by kernel_rfl) (fun w' hg=>?_) ?_
      ·go_simp;exact Sa _
      refine A4 (by kernel_rfl) (fun w' hg=>?_) ?_
      ·go_simp;exact Sa _
      refine A4 (by kernel_rfl) (fun w' hg=>?_) ?_
      ·go_simp;exact Sa _
      refine A4 (by kernel_rfl) (fun w' hg=>?_) ?_
      ·refine wp_load_mid 29 (.tmp 16) rfl (z2+1) 0 rfl cb2 _ ((HP.out.grew hg).row2) Tryz.underlying29 rfl (by rw[HP.out.len.2];exact AD) ?_;exact⟨rfl,Sa _⟩
      refine A4 (by kernel_rfl) (fun w' hg=>?_) ?_
      ·refine wp_load_mid 29 (.tmp 4) rfl (w.heap.size) 0 rfl cs1 _ (HB1.out _ (HK.out.trans hg)) Tryz.underlying29 rfl (by rw[HL.out.1];exact AD) ?_;exact⟨rfl,Sa _⟩
      refine A4 (by kernel_rfl) (fun w' hg=>?_) ?_
      ·go_simp;(with_reducible refine(DK (HOK.out.2.pt2 3) HOK.out.1 (HP.out.grew hg).rd2 (HE1.out _ (HG.out.trans (HK.out.trans hg))):Calls _ _ _ _ _).mono ?_);rintro e wq ⟨rfl,kq⟩;exact⟨by rw[hr2];try rfl,kq⟩
      refine A4 (by kernel_rfl) (fun w' hg=>?_) ?_
      ·go_simp;exact Sa _
      exact AQ
     case sT=>
      intro w9 hg9;simp only[List.toList_toArray,List.append_eq,List.cons_append,List.nil_append,AI,Act.put,List.setIfInBounds_toArray,List.set_cons_zero,List.set_cons_succ];replace HP:=S9 (HP.out.grew hg9);replace HK:=S9 (HK.out.trans hg9);clear hg9;go_wp2_with(((with_reducible refine AF 29 (.tmp 6) (.tmp 67) rfl ?_);refine Ar 29 (.tmp 6) (.tmp 67) (w.heap.size+1+1) (AH 0 0) (AH 0 0) 29 AD rfl (AX _ _) rfl rfl rfl rfl (HB3.out.grew HK.out) ?_;intro w8 hb8 k8 d8));refine bodyPost_ret (AR rfl rfl rfl AD Tryz.underlying29 rfl hb8) rfl ?_;exact BC (by unfold B5;simp[ho,hp,hr2]) (HG.out.trans HK.out) k8
    refine AK [.bool true,.bool true,.func (.func 90) #[] #[],.agg cb2.toArray,.agg cs1.toArray,.bool true,.bool true] _ (by kernel_rfl) (by kernel_rfl) rfl ?sH ?sT
    case sH=>
     simp only[List.toList_toArray,List.append_eq,List.cons_append,List.nil_append,AI,Act.put,List.setIfInBounds_toArray,List.set_cons_zero,List.set_cons_succ];refine A4 (by kernel_rfl) (fun w' hg=>?_) ?_
     ·go_simp;exact Sa _
     refine A4 (by kernel_rfl) (fun w' hg=>?_) ?_
     ·go_simp;exact Sa _
     refine A4 (by kernel_rfl) (fun w' hg=>?_) ?_
     ·go_simp;exact Sa _
     refine A4 (by kernel_rfl) (fun w' hg=>?_) ?_
     ·refine wp_load_mid 29 (.tmp 16) rfl (z2+1) 0 rfl cb2 _ ((HP.out.grew hg).row2) Tryz.underlying29 rfl (by rw[HP.out.len.2];exact AD) ?_;exact⟨rfl,Sa _⟩
     refine A4 (by kernel_rfl) (fun w' hg=>?_) ?_
     ·refine wp_load_mid 29 (.tmp 4) rfl (w.heap.size) 0 rfl cs1 _ (HB1.out _ (HK.out.trans hg)) Tryz.underlying29 rfl (by rw[HL.out.1];exact AD) ?_;exact⟨rfl,Sa _⟩
     refine A4 (by kernel_rfl) (fun w' hg=>?_) ?_
     ·go_simp;(with_reducible refine(DK (HOK.out.2.pt2 3) HOK.out.1 (HP.out.grew hg).rd2 (HE1.out _ (HG.out.trans (HK.out.trans hg))):Calls _ _ _ _ _).mono ?_);rintro e wq ⟨rfl,kq⟩;exact⟨by rw[hr2];try rfl,kq⟩
     refine A4 (by kernel_rfl) (fun w' hg=>?_) ?_
     ·go_simp;exact Sa _
     exact AQ
    case sT=>
     intro w9 hg9;simp only[List.toList_toArray,List.append_eq,List.cons_append,List.nil_append,AI,Act.put,List.setIfInBounds_toArray,List.set_cons_zero,List.set_cons_succ];replace HP:=S9 (HP.out.grew hg9);replace HK:=S9 (HK.out.trans hg9);clear hg9;go_wp2_with(first|((with_reducible refine AG 29 (.tmp 15) rfl ?_);refine wpList_load_mid rfl 29 (.tmp 15) rfl (z2) 0 rfl ca2 _ HP.out.row1 Tryz.underlying29 rfl (by rw[HP.out.len.1];exact AD) ?_)|((with_reducible refine AF 29 (.tmp 6) (.tmp 66) rfl ?_);refine Ar 29 (.tmp 6) (.tmp 66) (w.heap.size+1+1) ca2 (AH 0 0) 29 (by rw[HP.out.len.1];exact AD) (by rw[HP.out.len.1];rfl) HP.out.one.1 rfl rfl rfl rfl (HB3.out.grew HK.out) ?_;intro w8 hb8 k8 d8));refine bodyPost_ret (AR rfl rfl rfl (by rw[HP.out.len.1];exact AD) Tryz.underlying29 rfl hb8) rfl ?_;exact HP.out.fin1 (by unfold B5;simp[ho,hp,hr2]) k8
  rcases r1 with _|_
  ·refine AK [.bool true,.bool true,.func (.func 90) #[] #[],.agg cb1.toArray,.agg cs2.toArray,.bool false,.bool false] _ (by kernel_rfl) (by kernel_rfl) rfl ?sH ?sT
   case sH=>
    simp only[List.toList_toArray,List.append_eq,List.cons_append,List.nil_append,AI,Act.put,List.setIfInBounds_toArray,List.set_cons_zero,List.set_cons_succ];refine A4 (by kernel_rfl) (fun w' hg=>?_) ?_
    ·go_simp;exact Sa _
    refine A4 (by kernel_rfl) (fun w' hg=>?_) ?_
    ·go_simp;exact Sa _
    refine A4 (by kernel_rfl) (fun w' hg=>?_) ?_
    ·go_simp;exact Sa _
    refine A4 (by kernel_rfl) (fun w' hg=>?_) ?_
    ·refine wp_load_mid 29 (.tmp 13) rfl (z1+1) 0 rfl cb1 _ ((HP.out.grew hg).row2) Tryz.underlying29 rfl (by rw[HP.out.len.2];exact AD) ?_;exact⟨rfl,Sa _⟩
    refine A4 (by kernel_rfl) (fun w' hg=>?_) ?_
    ·refine wp_load_mid 29 (.tmp 5) rfl (w.heap.size+1) 0 rfl cs2 _ (HB2.out _ (HK.out.trans hg)) Tryz.underlying29 rfl (by rw[HL.out.2];exact AD) ?_;exact⟨rfl,Sa _⟩
    refine A4 (by kernel_rfl) (fun w' hg=>?_) ?_
    ·go_simp;(with_reducible refine(DK (HOK.out.1.pt2 3) HOK.out.2 (HP.out.grew hg).rd2 (HE2.out _ (HG.out.trans (HK.out.trans hg))):Calls _ _ _ _ _).mono ?_);rintro e wq ⟨rfl,kq⟩;exact⟨by rw[hr1];try rfl,kq⟩
    refine A4 (by kernel_rfl) (fun w' hg=>?_) ?_
    ·go_simp;exact Sa _
    exact AQ
   case sT=>
    intro w9 hg9;simp only[List.toList_toArray,List.append_eq,List.cons_append,List.nil_append,AI,Act.put,List.setIfInBounds_toArray,List.set_cons_zero,List.set_cons_succ];replace HP:=S9 (HP.out.grew hg9);replace HK:=S9 (HK.out.trans hg9);clear hg9;clear HP;go_upto_region 13 with fail;go_upto_region 14 with(first|((with_reducible refine AG 29 (.tmp 5) rfl ?_);refine wpList_load_mid rfl 29 (.tmp 5) rfl (w.heap.size+1) 0 rfl cs2 _ (HB2.out _ HK.out) Tryz.underlying29 rfl (by rw[HL.out.2];exact AD) ?_)|(go_at_call 89;(with_reducible refine(HPQ2.out 3 _ (HG.out.trans HK.out)).mono ?_);rintro e3 wa2 ⟨ca2,cb2,rfl,hca,hcb,ka⟩;obtain⟨y1,y2,y3⟩:=Bz wa2 29 29 (AH 0 0).toArray (AH 0 0).toArray;have hla:=hca.len;have hlb:=hcb.len;have hzs:=SH (HG.out.trans HK.out).size ka.size;have hoa:=hca.one_ (fun b hb=>SE (HQ.out b hb) hzs);have hob:=hcb.one_ (fun b hb=>SE (HQ.out b hb) hzs))|((with_reducible refine AF 29 (.tmp 15) (.tmp 56) rfl ?_);refine Ar 29 (.tmp 15) (.tmp 56) (wa2.heap.size) ca2 (AH 0 0) 29 (by rw[hla];exact AD) (by rw[hla];rfl) hoa rfl rfl rfl rfl y1 ?_;intro wb2 hb5 k5 d5;have hb5':=y2.keep k5 (by omega))|((with_reducible refine AF 29 (.tmp 16) (.tmp 57) rfl ?_);refine Ar 29 (.tmp 16) (.tmp 57) (wa2.heap.size+1) cb2 (AH 0 0) 29 (by rw[hlb];exact AD) (by rw[hlb];rfl) hob rfl rfl rfl rfl hb5' ?_;intro wc2 hb6 k6 d6;have hb56:=hb5.keep k6 (by omega)));have hac:A5 wa2 wc2:=Sb (Sb y3 k5 fun i hi e=>by omega) k6 fun i hi e=>by omega
    have hzw:w.heap.size+1+1<wa2.heap.size:=SE HB3.out.lt (HK.out.trans ka).size;have HP:=S9 (show GU w Q wa2.heap.size (pt1 e2 3) (pt2 e2 3) ca2 cb2 wc2 from⟨(HG.out.trans HK.out).trans (ka.trans hac),hb56,hb6,hca.grewQ (fun b hb=>SE (HQ.out b hb) hzs) hac,hcb.grewQ (fun b hb=>SE (HQ.out b hb) hzs) hac,HQ.out,hzw⟩);replace HK:=S9 (HK.out.trans (ka.trans hac));clear hb56 hb6 hb5 hb5' y1 y2 y3 k5 k6 d5 d6 ka hac hzs hzw hca hcb hla hlb hoa hob;generalize wa2.heap.size=z2 at*;obtain⟨p,hp⟩:∃q,Gk e2 3=q:=⟨_,rfl⟩;simp only[hp];obtain⟨r2,hr2⟩:∃q,Nx (pt2 e2 3) e1=q:=⟨_,rfl⟩;rcases p with _|_
    ·refine AK [.bool false,.bool false,undef,undef,undef,undef,.bool false] _ (by kernel_rfl) (by kernel_rfl) rfl ?sH ?sT
     case sH=>
      simp only[List.toList_toArray,List.append_eq,List.cons_append,List.nil_append,AI,Act.put,List.setIfInBounds_toArray,List.set_cons_zero,List.set_cons_succ];refine A4 (by kernel_rfl) (fun w' hg=>?_) ?_
      ·go_simp;exact Sa _
      refine A4 (by kernel_rfl) (fun w' hg=>?_) ?_
      ·go_simp;exact Sa _
      refine AA (by kernel_rfl) (by kernel_rfl) ?_;refine AA (by kernel_rfl) (by kernel_rfl) ?_;refine AA (by kernel_rfl) (by kernel_rfl) ?_;refine AA (by kernel_rfl) (by kernel_rfl) ?_;refine A4 (by kernel_rfl) (fun w' hg=>?_) ?_
      ·go_simp;exact Sa _
      exact AQ
     case sT=>
      intro w9 hg9;simp only[List.toList_toArray,List.append_eq,List.cons_append,List.nil_append,AI,Act.put,List.setIfInBounds_toArray,List.set_cons_zero,List.set_cons_succ];replace HP:=S9 (HP.out.grew hg9);replace HK:=S9 (HK.out.trans hg9);clear hg9;go_wp2_with(((with_reducible refine AF 29 (.tmp 6) (.tmp 67) rfl ?_);refine Ar 29 (.tmp 6) (.tmp 67) (w.heap.size+1+1) (AH 0 0) (AH 0 0) 29 AD rfl (AX _ _) rfl rfl rfl rfl (HB3.out.grew HK.out) ?_;intro w8 hb8 k8 d8));refine bodyPost_ret (AR rfl rfl rfl AD Tryz.underlying29 rfl hb8) rfl ?_;exact BC (by unfold B5;simp[ho,hr1,hp]) (HG.out.trans HK.out) k8
    rcases r2 with _|_
    ·refine AK [.bool true,.bool true,.func (.func 90) #[] #[],.agg cb2.toArray,.agg cs1.toArray,.bool false,.bool false] _ (by kernel_rfl) (by kernel_rfl) rfl ?sH ?sT
     case sH=>
      simp only[List.toList_toArray,List.append_eq,List.cons_append,List.nil_append,AI,Act.put,List.setIfInBounds_toArray,List.set_cons_zero,List.set_cons_succ];refine A4 (by kernel_rfl) (fun w' hg=>?_) ?_
      ·go_simp;exact Sa _
      refine A4 (by kernel_rfl) (fun w' hg=>?_) ?_
      ·go_simp;exact Sa _
      refine A4 (by kernel_rfl) (fun w' hg=>?_) ?_
      ·go_simp;exact Sa _
      refine A4 (by kernel_rfl) (fun w' hg=>?_) ?_
      ·refine wp_load_mid 29 (.tmp 16) rfl (z2+1) 0 rfl cb2 _ ((HP.out.grew hg).row2) Tryz.underlying29 rfl (by rw[HP.out.len.2];exact AD) ?_;exact⟨rfl,Sa _⟩
      refine A4 (by kernel_rfl) (fun w' hg=>?_) ?_
      ·refine wp_load_mid 29 (.tmp 4) rfl (w.heap.size) 0 rfl cs1 _ (HB1.out _ (HK.out.trans hg)) Tryz.underlying29 rfl (by rw[HL.out.1];exact AD) ?_;exact⟨rfl,Sa _⟩
      refine A4 (by kernel_rfl) (fun w' hg=>?_) ?_
      ·go_simp;(with_reducible refine(DK (HOK.out.2.pt2 3) HOK.out.1 (HP.out.grew hg).rd2 (HE1.out _ (HG.out.trans (HK.out.trans hg))):Calls _ _ _ _ _).mono ?_);rintro e wq ⟨rfl,kq⟩;exact⟨by rw[hr2];try rfl,kq⟩
      refine A4 (by kernel_rfl) (fun w' hg=>?_) ?_
      ·go_simp;exact Sa _
      exact AQ
     case sT=>
      intro w9 hg9;simp only[List.toList_toArray,List.append_eq,List.cons_append,List.nil_append,AI,Act.put,List.setIfInBounds_toArray,List.set_cons_zero,List.set_cons_succ];replace HP:=S9 (HP.out.grew hg9);replace HK:=S9 (HK.out.trans hg9);clear hg9;go_wp2_with(((with_reducible refine AF 29 (.tmp 6) (.tmp 67) rfl ?_);refine Ar 29 (.tmp 6) (.tmp 67) (w.heap.size+1+1) (AH 0 0) (AH 0 0) 29 AD rfl (AX _ _) rfl rfl rfl rfl (HB3.out.grew HK.out) ?_;intro w8 hb8 k8 d8));refine bodyPost_ret (AR rfl rfl rfl AD Tryz.underlying29 rfl hb8) rfl ?_;exact BC (by unfold B5;simp[ho,hr1,hp,hr2]) (HG.out.trans HK.out) k8
    refine AK [.bool true,.bool true,.func (.func 90) #[] #[],.agg cb2.toArray,.agg cs1.toArray,.bool true,.bool true] _ (by kernel_rfl) (by kernel_rfl) rfl ?sH ?sT
    case sH=>
     simp only[List.toList_toArray,List.append_eq,List.cons_append,List.nil_append,AI,Act.put,List.setIfInBounds_toArray,List.set_cons_zero,List.set_cons_succ];refine A4 (by kernel_rfl) (fun w' hg=>?_) ?_
     ·go_simp;exact Sa _
     refine A4 (by kernel_rfl) (fun w' hg=>?_) ?_
     ·go_simp;exact Sa _
     refine A4 (by kernel_rfl) (fun w' hg=>?_) ?_
     ·go_simp;exact Sa _
     refine A4 (by kernel_rfl) (fun w' hg=>?_) ?_
     ·refine wp_load_mid 29 (.tmp 16) rfl (z2+1) 0 rfl cb2 _ ((HP.out.grew hg).row2) Tryz.underlying29 rfl (by rw[HP.out.len.2];exact AD) ?_;exact⟨rfl,Sa _⟩
     refine A4 (by kernel_rfl) (fun w' hg=>?_) ?_
     ·refine wp_load_mid 29 (.tmp 4) rfl (w.heap.size) 0 rfl cs1 _ (HB1.out _ (HK.out.trans hg)) Tryz.underlying29 rfl (by rw[HL.out.1];exact AD) ?_;exact⟨rfl,Sa _⟩
     refine A4 (by kernel_rfl) (fun w' hg=>?_) ?_
     ·go_simp;(with_reducible refine(DK (HOK.out.2.pt2 3) HOK.out.1 (HP.out.grew hg).rd2 (HE1.out _ (HG.out.trans (HK.out.trans hg))):Calls _ _ _ _ _).mono ?_);rintro e wq ⟨rfl,kq⟩;exact⟨by rw[hr2];try rfl,kq⟩
     refine A4 (by kernel_rfl) (fun w' hg=>?_) ?_
     ·go_simp;exact Sa _
     exact AQ
    case sT=>
     intro w9 hg9;simp only[List.toList_toArray,List.append_eq,List.cons_append,List.nil_append,AI,Act.put,List.setIfInBounds_toArray,List.set_cons_zero,List.set_cons_succ];replace HP:=S9 (HP.out.grew hg9);replace HK:=S9 (HK.out.trans hg9);clear hg9;go_wp2_with(first|((with_reducible refine AG 29 (.tmp 15) rfl ?_);refine wpList_load_mid rfl 29 (.tmp 15) rfl (z2) 0 rfl ca2 _ HP.out.row1 Tryz.underlying29 rfl (by rw[HP.out.len.1];exact AD) ?_)|((with_reducible refine AF 29 (.tmp 6) (.tmp 66) rfl ?_);refine Ar 29 (.tmp 6) (.tmp 66) (w.heap.size+1+1) ca2 (AH 0 0) 29 (by rw[HP.out.len.1];exact AD) (by rw[HP.out.len.1];rfl) HP.out.one.1 rfl rfl rfl rfl (HB3.out.grew HK.out) ?_;intro w8 hb8 k8 d8));refine bodyPost_ret (AR rfl rfl rfl (by rw[HP.out.len.1];exact AD) Tryz.underlying29 rfl hb8) rfl ?_;exact HP.out.fin1 (by unfold B5;simp[ho,hr1,hp,hr2]) k8
  refine AK [.bool true,.bool true,.func (.func 90) #[] #[],.agg cb1.toArray,.agg cs2.toArray,.bool true,.bool true] _ (by kernel_rfl) (by kernel_rfl) rfl ?sH ?sT
  case sH=>
   simp only[List.toList_toArray,List.append_eq,List.cons_append,List.nil_append,AI,Act.put,List.setIfInBounds_toArray,List.set_cons_zero,List.set_cons_succ];refine A4 (by kernel_rfl) (fun w' hg=>?_) ?_
   ·go_simp;exact Sa _
   refine A4 (by kernel_rfl) (fun w' hg=>?_) ?_
   ·go_simp;exact Sa _
   refine A4 (by kernel_rfl) (fun w' hg=>?_) ?_
   ·go_simp;exact Sa _
   refine A4 (by kernel_rfl) (fun w' hg=>?_) ?_
   ·refine wp_load_mid 29 (.tmp 13) rfl (z1+1) 0 rfl cb1 _ ((HP.out.grew hg).row2) Tryz.underlying29 rfl (by rw[HP.out.len.2];exact AD) ?_;exact⟨rfl,Sa _⟩
   refine A4 (by kernel_rfl) (fun w' hg=>?_) ?_
   ·refine wp_load_mid 29 (.tmp 5) rfl (w.heap.size+1) 0 rfl cs2 _ (HB2.out _ (HK.out.trans hg)) Tryz.underlying29 rfl (by rw[HL.out.2];exact AD) ?_;exact⟨rfl,Sa _⟩
   refine A4 (by kernel_rfl) (fun w' hg=>?_) ?_
   ·go_simp;(with_reducible refine(DK (HOK.out.1.pt2 3) HOK.out.2 (HP.out.grew hg).rd2 (HE2.out _ (HG.out.trans (HK.out.trans hg))):Calls _ _ _ _ _).mono ?_);rintro e wq ⟨rfl,kq⟩;exact⟨by rw[hr1];try rfl,kq⟩
   refine A4 (by kernel_rfl) (fun w' hg=>?_) ?_
   ·go_simp;exact Sa _
   exact AQ
  case sT=>
   intro w9 hg9;simp only[List.toList_toArray,List.append_eq,List.cons_append,List.nil_append,AI,Act.put,List.setIfInBounds_toArray,List.set_cons_zero,List.set_cons_succ];replace HP:=S9 (HP.out.grew hg9);replace HK:=S9 (HK.out.trans hg9);clear hg9;go_wp2_with(first|((with_reducible refine AG 29 (.tmp 12) rfl ?_);refine wpList_load_mid rfl 29 (.tmp 12) rfl (z1) 0 rfl ca1 _ HP.out.row1 Tryz.underlying29 rfl (by rw[HP.out.len.1];exact AD) ?_)|((with_reducible refine AF 29 (.tmp 6) (.tmp 52) rfl ?_);refine Ar 29 (.tmp 6) (.tmp 52) (w.heap.size+1+1) ca1 (AH 0 0) 29 (by rw[HP.out.len.1];exact AD) (by rw[HP.out.len.1];rfl) HP.out.one.1 rfl rfl rfl rfl (HB3.out.grew HK.out) ?_;intro w8 hb8 k8 d8));refine bodyPost_ret (AR rfl rfl rfl (by rw[HP.out.len.1];exact AD) Tryz.underlying29 rfl hb8) rfl ?_;exact HP.out.fin1 (by unfold B5;simp[ho,hr1]) k8
 have t2:(f==2)=false:=by rw[SA];exact f2
 have HF:=S9 (SC f2 f3);clear f2 f3;go_wp2_with(((with_reducible refine AF 29 (.tmp 6) (.tmp 67) rfl ?_);refine Ar 29 (.tmp 6) (.tmp 67) (w.heap.size+1+1) (AH 0 0) (AH 0 0) 29 AD rfl (AX _ _) rfl rfl rfl rfl (HB3.out.grew HK.out) ?_;intro w8 hb8 k8 d8));refine bodyPost_ret (AR rfl rfl rfl AD Tryz.underlying29 rfl hb8) rfl ?_;exact BC (by unfold B5;simp[HF.out.1,HF.out.2]) (HG.out.trans HK.out) k8
end Go.Proofs.YthpflelgbadkcaaGreatDoor
