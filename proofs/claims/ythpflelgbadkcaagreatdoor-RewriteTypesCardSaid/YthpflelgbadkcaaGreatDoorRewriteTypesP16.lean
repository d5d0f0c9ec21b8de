/- What the card of the law stands on: PFold, PFoldN, PSimp, Clone2. -/
import Derived.Test.YthpflelgbadkcaaGreatDoorRewriteTypesP01
import Derived.Test.YthpflelgbadkcaaGreatDoorRewriteTypesP11
import Derived.Test.YthpflelgbadkcaaGreatDoorRewriteTypesP15
import Derived.Deep.DeepCutAuto
import Derived.Test.YthpflelgbadkcaaGreatDoorRewriteTypesP06
import Derived.Test.YthpflelgbadkcaaGreatDoorRewriteTypesP09
import Derived.Lib.LazyBuf
set_option maxRecDepth 100000
set_option maxHeartbeats 12800000
set_option linter.unusedVariables false
set_option linter.unusedSimpArgs false
namespace Go.Proofs.YthpflelgbadkcaaGreatDoor
open Go.RowKit Pl
theorem T6:(Tryz.prog.info? 132).map (·.size)=some 4:=by kernel_rfl
theorem P3 (fn:Int) (ea eb:Ex) (v1 v2 v3 v4 v5 v6:Value) (w:World) (ha:ea.kind=0) (hb:eb.kind=0) (hfn:0≤fn∧fn≤3) (hn1:BI ea.num) (hd1:BI ea.den) (hn2:BI eb.num) (hd2:BI eb.den) (x y er:Int) (hap:EV fn ea.num ea.den eb.num eb.den=(x,y,er)):
  Calls Tryz.prog 56 #[.int .i64 fn,.agg (AC ea v1 v2 v3).toArray,.agg (AC eb v4 v5 v6).toArray] w fun e' w'=>e'= .returned (.tuple #[.agg (AJ x y).toArray,.bool (er==0)])∧A4 w w':=by
 obtain⟨hb1,hb2,hb3,hG⟩:=Ci w 29 29 29 (AC ea v1 v2 v3).toArray (AC eb v4 v5 v6).toArray (AJ 0 0).toArray;go_enter Tryz.func56,Tryz.ntmps56;go_upto_region 1 with fail;change Code.wp _ _ _ _ (((w.alloc (.cells (AC ea v1 v2 v3).toArray 29)).alloc (.cells (AC eb v4 v5 v6).toArray 29)).alloc (.cells (AJ 0 0).toArray 29));generalize ((w.alloc (.cells (AC ea v1 v2 v3).toArray 29)).alloc (.cells (AC eb v4 v5 v6).toArray 29)).alloc (.cells (AJ 0 0).toArray 29)=w1 at*;have c0:w1.cell? ⟨w.heap.size,0,none⟩=some (.int .i64 0):=by have:w1.cell? ⟨w.heap.size,0,none⟩=some (.int .i64 ea.kind):=hb1.cell 0;rw[ha]at this;exact this
 have d0:w1.cell? ⟨w.heap.size+1,0,none⟩=some (.int .i64 0):=by have:w1.cell? ⟨w.heap.size+1,0,none⟩=some (.int .i64 eb.kind):=hb2.cell 0;rw[hb]at this;exact this
 have HB1:=V3 (V5 hb1 (V5 hb2 (V5 hb3 hG)));clear hb1 hb2 hb3 hG ha hb;go_upto_region 4 with(first|((with_reducible refine AG 132 (.tmp 8) (.tmp 20) rfl ?_);refine BL 132 (.tmp 8) (.tmp 20) (w1.heap.size) [.func (.func 81) #[] #[],.func (.func 82) #[] #[],.func (.func 83) #[] #[],.func (.func 84) #[] #[]] [.nilFunc,.nilFunc,.nilFunc,.nilFunc] 132 T6 rfl (by intro v hv;simp at hv;rcases hv with rfl|rfl|rfl|rfl<;>rfl) rfl rfl rfl rfl (VW w1 132 _) ?_;intro w3 hb8 k8 d8;have g3:A4 w1 w3:=VV ((VU w1).alloc _) k8 (fun i hi e=>by omega)));have HB:=V3 (show(∀w',A4 w3 w'→w'.rangeAt w.heap.size 5 (AI ea.num ea.den))∧(∀w',A4 w3 w'→w'.rangeAt (w.heap.size+1) 5 (AI eb.num eb.den))∧AR w3 (w.heap.size+1+1) 29 (AJ 0 0).toArray∧A4 w w3 from⟨fun w' g=>(HB1.out.1.grew (g3.trans g)).rangeN 5 (AI ea.num ea.den) rfl,fun w' g=>(HB1.out.2.1.grew (g3.trans g)).rangeN 5 (AI eb.num eb.den) rfl,HB1.out.2.2.1.grew g3,HB1.out.2.2.2.trans g3⟩);clear c0 d0 HB1 k8 g3;generalize w1.heap.size=z8 at*;generalize ea.num=n1 at*;generalize ea.den=d1 at*;generalize eb.num=n2 at*;generalize eb.den=d2 at*;obtain rfl|rfl|rfl|rfl:fn=0∨fn=1∨fn=2∨fn=3:=by omega
 ·have HAP:=V3 (fun w'=>MY n1 d1 n2 d2 w' hn1 hd1 hn2 hd2);rw[show Em n1 d1 n2 d2=(x,y,er)from hap]at HAP;simp only[FZ]at HAP;have a0:w3.cell? ⟨z8,0,none⟩=some (.func (.func 81) #[] #[]):=hb8.cell 0;have HRW:=V3 (show ∀w',A4 w3.drew w'→w'.cell? ⟨z8,0,none⟩=some (.func (.func 81) #[] #[])∧w'.rangeAt w.heap.size 5 (AI n1 d1)∧w'.rangeAt (w.heap.size+1) 5 (AI n2 d2)from fun w' g=>⟨((hb8.drewN 1).grew g).cell 0,(HB.out.1 _ ((VX (VU w3)).trans g)),(HB.out.2.1 _ ((VX (VU w3)).trans g))⟩);clear hap hn1 hd1 hn2 hd2 hb8 a0;refine Dt (by kernel_rfl) 12 11 9 [10,13] [.int .i64 0,.pointer (some ⟨z8,0,none⟩),.func (.func 81) #[] #[],.pointer (some ⟨w.heap.size,5,none⟩),.agg (AI n1 d1).toArray,.pointer (some ⟨w.heap.size+1,5,none⟩),.agg (AI n2 d2).toArray,.tuple #[.agg (AI x y).toArray,.int .i64 er],.tuple #[.agg (AI x y).toArray,.int .i64 er],.agg (AI x y).toArray,.int .i64 er,undef,undef,.int .i64 er] 24 (AI 0 0) _ (by kernel_rfl) (by kernel_rfl) (by decide) (by decide) (by decide) (VH (by kernel_rfl)) rfl (VH (by kernel_rfl)) (by kernel_rfl) ?hH ?hal (AI x y) (.tmp 9) (.tmp 30) 24 _ rfl rfl rfl (by simp[Op.operands]) (by simp[Op.operands]) Ao rfl (B7 _ _) (fun z=>by kernel_rfl) (fun z=>by kernel_rfl) ?hT
  case hH=>
   simp only[List.toList_toArray,List.take_succ_cons,List.take_zero,Af,Act.put,List.setIfInBounds_toArray,List.set_cons_zero,List.set_cons_succ];refine AX (by decide) (fun z w' hg=>?_) ?_
   ·go_simp;exact VU _
   refine AX (by decide) (fun z w' hg=>?_) ?_
   ·go_simp;exact VU _
   refine AX (by decide) (fun z w' hg=>?_) ?_
   ·obtain⟨g1,g2,g3⟩:=HRW.out _ hg;go_simp;exact VU _
   refine AX (by decide) (fun z w' hg=>?_) ?_
   ·go_simp;exact VU _
   refine AX (by decide) (fun z w' hg=>?_) ?_
   ·obtain⟨g1,g2,g3⟩:=HRW.out _ hg;refine wp_load_mid 24 (.tmp 25) rfl (w.heap.size) 5 rfl (AI n1 d1) _ g2 Tryz.underlying24 rfl Ao ?_;exact⟨rfl,VU _⟩
   refine AX (by decide) (fun z w' hg=>?_) ?_
   ·go_simp;exact VU _
   refine AX (by decide) (fun z w' hg=>?_) ?_
   ·obtain⟨g1,g2,g3⟩:=HRW.out _ hg;refine wp_load_mid 24 (.tmp 27) rfl (w.heap.size+1) 5 rfl (AI n2 d2) _ g3 Tryz.underlying24 rfl Ao ?_;exact⟨rfl,VU _⟩
   refine AX (by decide) (fun z w' hg=>?_) ?_
   ·go_simp;(with_reducible refine(HAP.out _).mono ?_);rintro e wq ⟨rfl,kq⟩;exact⟨rfl,kq⟩
   refine AX (by decide) (fun z w' hg=>?_) ?_
   ·go_simp;exact VU _
   refine AX (by decide) (fun z w' hg=>?_) ?_
   ·go_simp;exact VU _
   refine CJ (by decide) (fun z w'=>?_) ?_
   ·go_simp
   refine Dl (by decide) ?_;refine Dj (by decide) ?_;refine CJ (by decide) (fun z w'=>?_) ?_
   ·go_simp
   exact GC
  case hal=>
   intro o1 ho a1 w4 K hK;obtain rfl:=VE ho;go_simp;exact hK _ rfl
  case hT=>
   intro z wz hz hbz hgz;dsimp only;simp only[List.toList_toArray,List.take_succ_cons,List.take_zero,Af,Act.put,List.setIfInBounds_toArray,List.set_cons_zero,List.set_cons_succ];have m2:=HB.out.2.2.1.grew hgz;have hGz:=HB.out.2.2.2.trans hgz;obtain⟨eb2,heb⟩:∃q:Bool,(er==0)=q:=⟨_,rfl⟩;clear HRW HB hgz hz;go_wp2_with(first|((with_reducible refine AF 24 (.tmp 9) rfl ?_);refine BZ 24 Tryz.underlying24 rfl (.tmp 9) z [.int .i64 x,.int .i64 y] 24 Ao rfl rfl rfl hbz ?_)|((with_reducible refine AG 29 (.tmp 6) (.tmp 33) rfl ?_);refine BL 29 (.tmp 6) (.tmp 33) (w.heap.size+1+1) (AJ x y) (AJ 0 0) 29 AE rfl (Bh _ _) rfl rfl rfl rfl m2 ?_;intro w8 hb8 k8 d8));refine bodyPost_ret (DT rfl rfl rfl AE Tryz.underlying29 rfl hb8) rfl ?_;exact⟨by rw[heb];rfl,VV hGz k8 (fun i hi e=>by omega)⟩
 ·have HAP:=V3 (fun w'=>QL n1 d1 n2 d2 w' hn1 hd1 hn2 hd2);rw[show Jx n1 d1 n2 d2=(x,y,er)from hap]at HAP;simp only[FZ]at HAP;have a0:w3.cell? ⟨z8,1,none⟩=some (.func (.func 82) #[] #[]):=hb8.cell 1;have HRW:=V3 (show ∀w',A4 w3.drew w'→w'.cell? ⟨z8,1,none⟩=some (.func (.func 82) #[] #[])∧w'.rangeAt w.heap.size 5 (AI n1 d1)∧w'.rangeAt (w.heap.size+1) 5 (AI n2 d2)from fun w' g=>⟨((hb8.drewN 1).grew g).cell 1,(HB.out.1 _ ((VX (VU w3)).trans g)),(HB.out.2.1 _ ((VX (VU w3)).trans g))⟩);clear hap hn1 hd1 hn2 hd2 hb8 a0;refine Dt (by kernel_rfl) 12 11 9 [10,13] [.int .i64 1,.pointer (some ⟨z8,1,none⟩),.func (.func 82) #[] #[],.pointer (some ⟨w.heap.size,5,none⟩),.agg (AI n1 d1).toArray,.pointer (some ⟨w.heap.size+1,5,none⟩),.agg (AI n2 d2).toArray,.tuple #[.agg (AI x y).toArray,.int .i64 er],.tuple #[.agg (AI x y).toArray,.int .i64 er],.agg (AI x y).toArray,.int .i64 er,undef,undef,.int .i64 er] 24 (AI 0 0) _ (by kernel_rfl) (by kernel_rfl) (by decide) (by decide) (by decide) (VH (by kernel_rfl)) rfl (VH (by kernel_rfl)) (by kernel_rfl) ?hH ?hal (AI x y) (.tmp 9) (.tmp 30) 24 _ rfl rfl rfl (by simp[Op.operands]) (by simp[Op.operands]) Ao rfl (B7 _ _) (fun z=>by kernel_rfl) (fun z=>by kernel_rfl) ?hT
  case hH=>
   simp only[List.toList_toArray,List.take_succ_cons,List.take_zero,Af,Act.put,List.setIfInBounds_toArray,List.set_cons_zero,List.set_cons_succ];refine AX (by decide) (fun z w' hg=>?_) ?_
   ·go_simp;exact VU _
   refine AX (by decide) (fun z w' hg=>?_) ?_
   ·go_simp;exact VU _
   refine AX (by decide) (fun z w' hg=>?_) ?_
   ·obtain⟨g1,g2,g3⟩:=HRW.out _ hg;go_simp;exact VU _
   refine AX (by decide) (fun z w' hg=>?_) ?_
   ·go_simp;exact VU _
   refine AX (by decide) (fun z w' hg=>?_) ?_
   ·obtain⟨g1,g2,g3⟩:=HRW.out _ hg;refine wp_load_mid 24 (.tmp 25) rfl (w.heap.size) 5 rfl (AI n1 d1) _ g2 Tryz.underlying24 rfl Ao ?_;exact⟨rfl,VU _⟩
   refine AX (by decide) (fun z w' hg=>?_) ?_
   ·go_simp;exact VU _
   refine AX (by decide) (fun z w' hg=>?_) ?_
   ·obtain⟨g1,g2,g3⟩:=HRW.out _ hg;refine wp_load_mid 24 (.tmp 27) rfl (w.heap.size+1) 5 rfl (AI n2 d2) _ g3 Tryz.underlying24 rfl Ao ?_;exact⟨rfl,VU _⟩
   refine AX (by decide) (fun z w' hg=>?_) ?_
   ·go_simp;(with_reducible refine(HAP.out _).mono ?_);rintro e wq ⟨rfl,kq⟩;exact⟨rfl,kq⟩
   refine AX (by decide) (fun z w' hg=>?_) ?_
   ·go_simp;exact VU _
   refine AX (by decide) (fun z w' hg=>?_) ?_
   ·go_simp;exact VU _
   refine CJ (by decide) (fun z w'=>?_) ?_
   ·go_simp
   refine Dl (by decide) ?_;refine Dj (by decide) ?_;refine CJ (by decide) (fun z w'=>?_) ?_
   ·go_simp
   exact GC
  case hal=>
   intro o1 ho a1 w4 K hK;obtain rfl:=VE ho;go_simp;exact hK _ rfl
  case hT=>
   intro z wz hz hbz hgz;dsimp only;simp only[List.toList_toArray,List.take_succ_cons,List.take_zero,Af,Act.put,List.setIfInBounds_toArray,List.set_cons_zero,List.set_cons_succ];have m2:=HB.out.2.2.1.grew hgz;have hGz:=HB.out.2.2.2.trans hgz;obtain⟨eb2,heb⟩:∃q:Bool,(er==0)=q:=⟨_,rfl⟩;clear HRW HB hgz hz;go_wp2_with(first|((with_reducible refine AF 24 (.tmp 9) rfl ?_);refine BZ 24 Tryz.underlying24 rfl (.tmp 9) z [.int .i64 x,.int .i64 y] 24 Ao rfl rfl rfl hbz ?_)|((with_reducible refine AG 29 (.tmp 6) (.tmp 33) rfl ?_);refine BL 29 (.tmp 6) (.tmp 33) (w.heap.size+1+1) (AJ x y) (AJ 0 0) 29 AE rfl (Bh _ _) rfl rfl rfl rfl m2 ?_;intro w8 hb8 k8 d8));refine bodyPost_ret (DT rfl rfl rfl AE Tryz.underlying29 rfl hb8) rfl ?_;exact⟨by rw[heb];rfl,VV hGz k8 (fun i hi e=>by omega)⟩
 ·have HAP:=V3 (fun w'=>JX n1 d1 n2 d2 w' hn1 hd1 hn2 hd2);rw[show EH n1 d1 n2 d2=(x,y,er)from hap]at HAP;simp only[FZ]at HAP;have a0:w3.cell? ⟨z8,2,none⟩=some (.func (.func 83) #[] #[]):=hb8.cell 2;have HRW:=V3 (show ∀w',A4 w3.drew w'→w'.cell? ⟨z8,2,none⟩=some (.func (.func 83) #[] #[])∧w'.rangeAt w.heap.size 5 (AI n1 d1)∧w'.rangeAt (w.heap.size+1) 5 (AI n2 d2)from fun w' g=>⟨((hb8.drewN 1).grew g).cell 2,(HB.out.1 _ ((VX (VU w3)).trans g)),(HB.out.2.1 _ ((VX (VU w3)).trans g))⟩);clear hap hn1 hd1 hn2 hd2 hb8 a0;refine Dt (by kernel_rfl) 12 11 9 [10,13] [.int .i64 2,.pointer (some ⟨z8,2,none⟩),.func (.func 83) #[] #[],.pointer (some ⟨w.heap.size,5,none⟩),.agg (AI n1 d1).toArray,.pointer (some ⟨w.heap.size+1,5,none⟩),.agg (AI n2 d2).toArray,.tuple #[.agg (AI x y).toArray,.int .i64 er],.tuple #[.agg (AI x y).toArray,.int .i64 er],.agg (AI x y).toArray,.int .i64 er,undef,undef,.int .i64 er] 24 (AI 0 0) _ (by kernel_rfl) (by kernel_rfl) (by decide) (by decide) (by decide) (VH (by kernel_rfl)) rfl (VH (by kernel_rfl)) (by kernel_rfl) ?hH ?hal (AI x y) (.tmp 9) (.tmp 30) 24 _ rfl rfl rfl (by simp[Op.operands]) (by simp[Op.operands]) Ao rfl (B7 _ _) (fun z=>by kernel_rfl) (fun z=>by kernel_rfl) ?hT
  case hH=>
   simp only[List.toList_toArray,List.take_succ_cons,List.take_zero,Af,Act.put,List.setIfInBounds_toArray,List.set_cons_zero,List.set_cons_succ];refine AX (by decide) (fun z w' hg=>?_) ?_
   ·go_simp;exact VU _
   refine AX (by decide) (fun z w' hg=>?_) ?_
   ·go_simp;exact VU _
   refine AX (by decide) (fun z w' hg=>?_) ?_
   ·obtain⟨g1,g2,g3⟩:=HRW.out _ hg;go_simp;exact VU _
   refine AX (by decide) (fun z w' hg=>?_) ?_
   ·go_simp;exact VU _
   refine AX (by decide) (fun z w' hg=>?_) ?_
   ·obtain⟨g1,g2,g3⟩:=HRW.out _ hg;refine wp_load_mid 24 (.tmp 25) rfl (w.heap.size) 5 rfl (AI n1 d1) _ g2 Tryz.underlying24 rfl Ao ?_;exact⟨rfl,VU _⟩
   refine AX (by decide) (fun z w' hg=>?_) ?_
   ·go_simp;exact VU _
   refine AX (by decide) (fun z w' hg=>?_) ?_
   ·obtain⟨g1,g2,g3⟩:=HRW.out _ hg;refine wp_load_mid 24 (.tmp 27) rfl (w.heap.size+1) 5 rfl (AI n2 d2) _ g3 Tryz.underlying24 rfl Ao ?_;exact⟨rfl,VU _⟩
   refine AX (by decide) (fun z w' hg=>?_) ?_
   ·go_simp;(with_reducible refine(HAP.out _).mono ?_);rintro e wq ⟨rfl,kq⟩;exact⟨rfl,kq⟩
   refine AX (by decide) (fun z w' hg=>?_) ?_
   ·go_simp;exact VU _
   refine AX (by decide) (fun z w' hg=>?_) ?_
   ·go_simp;exact VU _
   refine CJ (by decide) (fun z w'=>?_) ?_
   ·go_simp
   refine Dl (by decide) ?_;refine Dj (by decide) ?_;refine CJ (by decide) (fun z w'=>?_) ?_
   ·go_simp
   exact GC
  case hal=>
   intro o1 ho a1 w4 K hK;obtain rfl:=VE ho;go_simp;exact hK _ rfl
  case hT=>
   intro z wz hz hbz hgz;dsimp only;simp only[List.toList_toArray,List.take_succ_cons,List.take_zero,Af,Act.put,List.setIfInBounds_toArray,List.set_cons_zero,List.set_cons_succ];have m2:=HB.out.2.2.1.grew hgz;have hGz:=HB.out.2.2.2.trans hgz;obtain⟨eb2,heb⟩:∃q:Bool,(er==0)=q:=⟨_,rfl⟩;clear HRW HB hgz hz;go_wp2_with(first|((with_reducible refine AF 24 (.tmp 9) rfl ?_);refine BZ 24 Tryz.underlying24 rfl (.tmp 9) z [.int .i64 x,.int .i64 y] 24 Ao rfl rfl rfl hbz ?_)|((with_reducible refine AG 29 (.tmp 6) (.tmp 33) rfl ?_);refine BL 29 (.tmp 6) (.tmp 33) (w.heap.size+1+1) (AJ x y) (AJ 0 0) 29 AE rfl (Bh _ _) rfl rfl rfl rfl m2 ?_;intro w8 hb8 k8 d8));refine bodyPost_ret (DT rfl rfl rfl AE Tryz.underlying29 rfl hb8) rfl ?_;exact⟨by rw[heb];rfl,VV hGz k8 (fun i hi e=>by omega)⟩
 have HAP:=V3 (fun w'=>R3 n1 d1 n2 d2 w' hn1 hd1 hn2 hd2);rw[show Hy n1 d1 n2 d2=(x,y,er)from hap]at HAP;simp only[FZ]at HAP;have a0:w3.cell? ⟨z8,3,none⟩=some (.func (.func 84) #[] #[]):=hb8.cell 3;have HRW:=V3 (show ∀w',A4 w3.drew w'→w'.cell? ⟨z8,3,none⟩=some (.func (.func 84) #[] #[])∧w'.rangeAt w.heap.size 5 (AI n1 d1)∧w'.rangeAt (w.heap.size+1) 5 (AI n2 d2)from fun w' g=>⟨((hb8.drewN 1).grew g).cell 3,(HB.out.1 _ ((VX (VU w3)).trans g)),(HB.out.2.1 _ ((VX (VU w3)).trans g))⟩);clear hap hn1 hd1 hn2 hd2 hb8 a0;refine Dt (by kernel_rfl) 12 11 9 [10,13] [.int .i64 3,.pointer (some ⟨z8,3,none⟩),.func (.func 84) #[] #[],.pointer (some ⟨w.heap.size,5,none⟩),.agg (AI n1 d1).toArray,.pointer (some ⟨w.heap.size+1,5,none⟩),.agg (AI n2 d2).toArray,.tuple #[.agg (AI x y).toArray,.int .i64 er],.tuple #[.agg (AI x y).toArray,.int .i64 er],.agg (AI x y).toArray,.int .i64 er,undef,undef,.int .i64 er] 24 (AI 0 0) _ (by kernel_rfl) (by kernel_rfl) (by decide) (by decide) (by decide) (VH (by kernel_rfl)) rfl (VH (by kernel_rfl)) (by kernel_rfl) ?hH ?hal (AI x y) (.tmp 9) (.tmp 30) 24 _ rfl rfl rfl (by simp[Op.operands]) (by simp[Op.operands]) Ao rfl (B7 _ _) (fun z=>by kernel_rfl) (fun z=>by kernel_rfl) ?hT
 case hH=>
  simp only[List.toList_toArray,List.take_succ_cons,List.take_zero,Af,Act.put,List.setIfInBounds_toArray,List.set_cons_zero,List.set_cons_succ];refine AX (by decide) (fun z w' hg=>?_) ?_
  ·go_simp;exact VU _
  refine AX (by decide) (fun z w' hg=>?_) ?_
  ·go_simp;exact VU _
  refine AX (by decide) (fun z w' hg=>?_) ?_
  ·obtain⟨g1,g2,g3⟩:=HRW.out _ hg;go_simp;exact VU _
  refine AX (by decide) (fun z w' hg=>?_) ?_
  ·go_simp;exact VU _
  refine AX (by decide) (fun z w' hg=>?_) ?_
  ·obtain⟨g1,g2,g3⟩:=HRW.out _ hg;refine wp_load_mid 24 (.tmp 25) rfl (w.heap.size) 5 rfl (AI n1 d1) _ g2 Tryz.underlying24 rfl Ao ?_;exact⟨rfl,VU _⟩
  refine AX (by decide) (fun z w' hg=>?_) ?_
  ·go_simp;exact VU _
  refine AX (by decide) (fun z w' hg=>?_) ?_
  ·obtain⟨g1,g2,g3⟩:=HRW.out _ hg;refine wp_load_mid 24 (.tmp 27) rfl (w.heap.size+1) 5 rfl (AI n2 d2) _ g3 Tryz.underlying24 rfl Ao ?_;exact⟨rfl,VU _⟩
  refine AX (by decide) (fun z w' hg=>?_) ?_
  ·go_simp;(with_reducible refine(HAP.out _).mono ?_);rintro e wq ⟨rfl,kq⟩;exact⟨rfl,kq⟩
  refine AX (by decide) (fun z w' hg=>?_) ?_
  ·go_simp;exact VU _
  refine AX (by decide) (fun z w' hg=>?_) ?_
  ·go_simp;exact VU _
  refine CJ (by decide) (fun z w'=>?_) ?_
  ·go_simp
  refine Dl (by decide) ?_;refine Dj (by decide) ?_;refine CJ (by decide) (fun z w'=>?_) ?_
  ·go_simp
  exact GC
 case hal=>
  intro o1 ho a1 w4 K hK;obtain rfl:=VE ho;go_simp;exact hK _ rfl
 case hT=>
  intro z wz hz hbz hgz;dsimp only;simp only[List.toList_toArray,List.take_succ_cons,List.take_zero,Af,Act.put,List.setIfInBounds_toArray,List.set_cons_zero,List.set_cons_succ];have m2:=HB.out.2.2.1.grew hgz;have hGz:=HB.out.2.2.2.trans hgz;obtain⟨eb2,heb⟩:∃q:Bool,(er==0)=q:=⟨_,rfl⟩;clear HRW HB hgz hz;go_wp2_with(first|((with_reducible refine AF 24 (.tmp 9) rfl ?_);refine BZ 24 Tryz.underlying24 rfl (.tmp 9) z [.int .i64 x,.int .i64 y] 24 Ao rfl rfl rfl hbz ?_)|((with_reducible refine AG 29 (.tmp 6) (.tmp 33) rfl ?_);refine BL 29 (.tmp 6) (.tmp 33) (w.heap.size+1+1) (AJ x y) (AJ 0 0) 29 AE rfl (Bh _ _) rfl rfl rfl rfl m2 ?_;intro w8 hb8 k8 d8));refine bodyPost_ret (DT rfl rfl rfl AE Tryz.underlying29 rfl hb8) rfl ?_;exact⟨by rw[heb];rfl,VV hGz k8 (fun i hi e=>by omega)⟩
theorem PL (fn:Int) (ea eb:Ex) (v1 v2 v3 v4 v5 v6:Value) (w:World) (hab:¬(ea.kind=0∧eb.kind=0)):
  Calls Tryz.prog 56 #[.int .i64 fn,.agg (AC ea v1 v2 v3).toArray,.agg (AC eb v4 v5 v6).toArray] w fun e' w'=>e'= .returned (.tuple #[.agg (AJ 0 0).toArray,.bool false])∧A4 w w':=by
 obtain⟨hb1,hb2,hb3,hG⟩:=Ci w 29 29 29 (AC ea v1 v2 v3).toArray (AC eb v4 v5 v6).toArray (AJ 0 0).toArray;go_enter Tryz.func56,Tryz.ntmps56;go_upto_region 1 with fail;change Code.wp _ _ _ _ (((w.alloc (.cells (AC ea v1 v2 v3).toArray 29)).alloc (.cells (AC eb v4 v5 v6).toArray 29)).alloc (.cells (AJ 0 0).toArray 29));generalize ((w.alloc (.cells (AC ea v1 v2 v3).toArray 29)).alloc (.cells (AC eb v4 v5 v6).toArray 29)).alloc (.cells (AJ 0 0).toArray 29)=w1 at*;have c0:w1.cell? ⟨w.heap.size,0,none⟩=some (.int .i64 ea.kind):=hb1.cell 0;have d0:w1.cell? ⟨w.heap.size+1,0,none⟩=some (.int .i64 eb.kind):=hb2.cell 0;have HG:=V3 hG;clear hG hb1 hb2;by_cases ha:ea.kind=0
 ·have hb:¬eb.kind=0:=fun h=>hab ⟨ha,h⟩
  have t1:(ea.kind==0)=true:=by rw[VC];exact ha
  have t1':(ea.kind !=0)=false:=by rw[bne,t1];rfl
  have t2:(eb.kind==0)=false:=by rw[V4];exact hb
  have t2':(eb.kind !=0)=true:=by rw[bne,t2];rfl
  clear ha hb hab;go_wp2_with(first|((with_reducible refine AG 29 (.tmp 6) (.tmp 19) rfl ?_);refine BL 29 (.tmp 6) (.tmp 19) (w.heap.size+1+1) (AJ 0 0) (AJ 0 0) 29 AE rfl (Bh _ _) rfl rfl rfl rfl hb3 ?_;intro w8 hb8 k8 d8));refine bodyPost_ret (DT rfl rfl rfl AE Tryz.underlying29 rfl hb8) rfl ?_;exact⟨rfl,VV HG.out k8 (fun i hi e=>by omega)⟩
 have t1:(ea.kind==0)=false:=by rw[V4];exact ha
 have t1':(ea.kind !=0)=true:=by rw[bne,t1];rfl
 clear ha hab;go_wp2_with(first|((with_reducible refine AG 29 (.tmp 6) (.tmp 19) rfl ?_);refine BL 29 (.tmp 6) (.tmp 19) (w.heap.size+1+1) (AJ 0 0) (AJ 0 0) 29 AE rfl (Bh _ _) rfl rfl rfl rfl hb3 ?_;intro w8 hb8 k8 d8));refine bodyPost_ret (DT rfl rfl rfl AE Tryz.underlying29 rfl hb8) rfl ?_;exact⟨rfl,VV HG.out k8 (fun i hi e=>by omega)⟩
theorem AZ.two_le {w:World} {B M M':Nat} {e:Ex} {cs:List Value} (h:AZ w (DK B M w.heap.size) e cs) (hM:M'≤M):AZ w (DK B M' w.heap.size) e cs:=
 AZ.keep (S:=fun _=>False) (fun b hb=>⟨hb.2,fun h=>h,by rcases hb.1 with h1|h1;exact .inl h1;exact .inr (by omega),hb.2⟩) (VU w) e cs h
theorem Qb:(Tryz.prog.info? 105).map (·.size)=some 1:=by kernel_rfl
theorem TJ:(Tryz.prog.info? 106).map (·.size)=some 6:=by kernel_rfl
def KE (w:World) (sz:Nat) (rows:List (List Value)) (e:Ending) (w':World):Prop:=∃v,e= .returned v∧Ba w' (fun b=>w.heap.size≤b∧b<w'.heap.size) sz v rows∧A4 w w'
theorem Kf {P:Program} {t e:TypeId} {sz bytes:Nat} {z:Value} {w:World} {base:Nat} {v sv:Value} {rows news:List (List Value)} {ops:Array Oper} {rest:List Oper} {o:Oper} {a:Act} {Q:Exit→Act→World→Prop} (T:My P t e sz bytes z) (hgd:o.guard=none) (s x:Operand)
  (ho:o.op= .call { callee:= .builtin .append,args:=#[s,x],argTypes:=#[t,t] })
  (hs:a.eval s=v) (hown:B8 w base e sz v rows) (hx:a.eval x=sv) {B:Nat} (hr:Cg w B sz sv news) (hev:I0 sz news) (h1:∀r∈news,∀u∈r,u.oneCell'=true)
  (hn:rows.length+news.length≤1099511627) (hbase:base≤w.heap.size)
  (h:∀v' w',B8 w' base e sz v' (rows++news)→AA (fun i=>v.ownBlock=some i) w w'→wpList P ops Q rest (a.put o.dst v') w'):wpList P ops Q (o::rest) a w:=by
 refine wpList_plain hgd fun K hK=>?_
 obtain⟨v',w',hrun,h2,h3,h4⟩:=Hq (P:=P) T o.type hown hr hev h1 hn hbase;unfold Oper.wp execOp;simp only[ho,resolve,invoke,builtin,Sem.run_bind,Sem.run_pure,Result.andThen_ok,List.map_toArray,List.map_cons,List.map_nil,hs,hx,hrun];exact hK _ _ (h v' w' h2 h3)
theorem Ut:My Tryz.prog 25 68 3 40 (.agg #[.string ⟨#[]⟩,.int .i64 0,.string ⟨#[]⟩]):=⟨Tryz.underlying25,by kernel_rfl,rfl,by decide,by decide⟩
theorem NZ (v:Value) (rows:List (List Value)) (w:World) (h:Cg w w.heap.size 3 v rows) (hev:I0 3 rows) (h1:∀r∈rows,∀u∈r,u.oneCell'=true) (hn:rows.length≤1000000):Calls Tryz.prog 38 #[v] w (KE w 3 rows):=by
 obtain⟨A,c,rfl,hc,hx⟩:=h;obtain⟨n,hnn⟩:∃n,rows.length=n:=⟨_,rfl⟩;have hrd:∀w',A4 w w'→Cg w' w'.heap.size 3 (.slice A rows.length c) rows:=fun w' g=>Cg.keep (B:=w.heap.size) ⟨A,c,rfl,hc,hx⟩ (V6 _) g.size g (fun _ _ h=>h)
 rw[hnn]at hc hx hrd;have HN:=V3 hnn;have HX:=V3 hx;have HRD:=V3 hrd;have HEV:=V3 (V5 hev h1);clear hx hev h1 hrd;rw[hnn];clear hnn;go_enter Tryz.func38,Tryz.ntmps38;have heq:=fun w=>run_eql_slice_nil (P:=Tryz.prog) w 25 68 A n c Tryz.underlying25
 rcases A with _|ad
 ·have HR0:=V3 (show rows=[]from by
   rcases hr:rows with _|⟨r,rs⟩
   ·rfl
   obtain⟨b,o,h, -⟩:=HX.out (by have:=HN.out;rw[hr]at this;simp at this;omega);cases h)
  go_wp2_with fail;go_ret;refine⟨_,rfl,?_,VU _⟩;rw[HR0.out];exact Ba.nil _ _ _
 go_wp2_with(at_builtin;refine Kf Ut rfl (.tmp 5) (.tmp 6) rfl rfl (B8.made (base:=w.heap.size) (c:=0) #[] rfl (by decide) (V6 _)) rfl (HRD.out _ ((VU w).alloc _)) HEV.out.1 HEV.out.2 (by have:=HN.out;simp;omega) (by simp) ?_;intro v' w3 hM k3;have HM:=V3 hM;have HK:=V3 k3;clear hM k3);go_ret;refine⟨_,rfl,(HM.out.own).keep (S:=fun _=>False) (fun b hb=>⟨(HM.out.lt b hb).2,fun h=>h,(HM.out.lt b hb).1,(HM.out.lt b hb).2⟩) (VU _),VV ((VU w).alloc _) HK.out fun i hi e=>by
  have h:some w.heap.size=some i:=e;injection h with h;omega⟩
theorem Uf:My Tryz.prog 26 9 1 16 (.string ⟨#[]⟩):=⟨Tryz.underlying26,by kernel_rfl,rfl,by decide,by decide⟩
theorem J0 (v:Value) (rows:List (List Value)) (w:World) (h:Cg w w.heap.size 1 v rows) (hev:I0 1 rows) (h1:∀r∈rows,∀u∈r,u.oneCell'=true) (hn:rows.length≤1000000):Calls Tryz.prog 39 #[v] w (KE w 1 rows):=by
 obtain⟨A,c,rfl,hc,hx⟩:=h;obtain⟨n,hnn⟩:∃n,rows.length=n:=⟨_,rfl⟩;have hrd:∀w',A4 w w'→Cg w' w'.heap.size 1 (.slice A rows.length c) rows:=fun w' g=>Cg.keep (B:=w.heap.size) ⟨A,c,rfl,hc,hx⟩ (V6 _) g.size g (fun _ _ h=>h)
 rw[hnn]at hc hx hrd;have HN:=V3 hnn;have HX:=V3 hx;have HRD:=V3 hrd;have HEV:=V3 (V5 hev h1);clear hx hev h1 hrd;rw[hnn];clear hnn;go_enter Tryz.func39,Tryz.ntmps39;have heq:=fun w=>run_eql_slice_nil (P:=Tryz.prog) w 26 9 A n c Tryz.underlying26
 rcases A with _|ad
 ·have HR0:=V3 (show rows=[]from by
   rcases hr:rows with _|⟨r,rs⟩
   ·rfl
   obtain⟨b,o,h, -⟩:=HX.out (by have:=HN.out;rw[hr]at this;simp at this;omega);cases h)
  go_wp2_with fail;go_ret;refine⟨_,rfl,?_,VU _⟩;rw[HR0.out];exact Ba.nil _ _ _
 go_wp2_with(at_builtin;refine Kf Uf rfl (.tmp 5) (.tmp 6) rfl rfl (B8.made (base:=w.heap.size) (c:=0) #[] rfl (by decide) (V6 _)) rfl (HRD.out _ ((VU w).alloc _)) HEV.out.1 HEV.out.2 (by have:=HN.out;simp;omega) (by simp) ?_;intro v' w3 hM k3;have HM:=V3 hM;have HK:=V3 k3;clear hM k3);go_ret;refine⟨_,rfl,(HM.out.own).keep (S:=fun _=>False) (fun b hb=>⟨(HM.out.lt b hb).2,fun h=>h,(HM.out.lt b hb).1,(HM.out.lt b hb).2⟩) (VU _),VV ((VU w).alloc _) HK.out fun i hi e=>by
  have h:some w.heap.size=some i:=e;injection h with h;omega⟩
end Go.Proofs.YthpflelgbadkcaaGreatDoor
