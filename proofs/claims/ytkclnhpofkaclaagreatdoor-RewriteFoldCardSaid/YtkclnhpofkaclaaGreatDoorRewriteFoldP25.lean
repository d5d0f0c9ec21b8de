/- What the card of the law stands on: PFold, PFoldN, PSimp. -/
import Derived.Test.YtkclnhpofkaclaaGreatDoorRewriteFoldP04
import Derived.Test.YtkclnhpofkaclaaGreatDoorRewriteFoldP01
import Derived.Test.YtkclnhpofkaclaaGreatDoorRewriteFoldP19
import Derived.Test.YtkclnhpofkaclaaGreatDoorRewriteFoldP24
import Derived.Deep.DeepCutAuto
set_option maxRecDepth 100000
set_option maxHeartbeats 12800000
set_option linter.unusedVariables false
set_option linter.unusedSimpArgs false
namespace Go.Proofs.YtkclnhpofkaclaaGreatDoor
open Go.RowKit Pl
theorem SA:(Tryz.prog.info? 80).map (·.size)=some 4:=by kernel_rfl
theorem UB:J3 80 4:=⟨SA,_,Tryz.underlying80,rfl⟩
theorem Jr (fn:Int) (ea eb:Ex) (v1 v2 v3 v4 v5 v6:Value) (w:World) (ha:ea.kind=0) (hb:eb.kind=0) (hfn:0≤fn∧fn≤3) (hn1:Ah ea.num) (hd1:Ah ea.den) (hn2:Ah eb.num) (hd2:Ah eb.den) (x y er:Int) (hap:Bc fn ea.num ea.den eb.num eb.den=(x,y,er)):
  Calls Tryz.prog 33 #[.int .i64 fn,.agg (A8 ea v1 v2 v3).toArray,.agg (A8 eb v4 v5 v6).toArray] w fun e' w'=>e'= .returned (.tuple #[.agg (AE x y).toArray,.bool (er==0)])∧A5 w w':=by
 obtain⟨hb1,hb2,hb3,hG⟩:=BO w 29 29 29 (A8 ea v1 v2 v3).toArray (A8 eb v4 v5 v6).toArray (AE 0 0).toArray;go_enter Tryz.func33,Tryz.ntmps33;go_upto_region 1 with fail;change Code.wp _ _ _ _ (((w.alloc (.cells (A8 ea v1 v2 v3).toArray 29)).alloc (.cells (A8 eb v4 v5 v6).toArray 29)).alloc (.cells (AE 0 0).toArray 29));generalize ((w.alloc (.cells (A8 ea v1 v2 v3).toArray 29)).alloc (.cells (A8 eb v4 v5 v6).toArray 29)).alloc (.cells (AE 0 0).toArray 29)=w1 at*;have c0:w1.cell? ⟨w.heap.size,0,none⟩=some (.int .i64 0):=by have:w1.cell? ⟨w.heap.size,0,none⟩=some (.int .i64 ea.kind):=hb1.cell 0;rw[ha]at this;exact this
 have d0:w1.cell? ⟨w.heap.size+1,0,none⟩=some (.int .i64 0):=by have:w1.cell? ⟨w.heap.size+1,0,none⟩=some (.int .i64 eb.kind):=hb2.cell 0;rw[hb]at this;exact this
 have HB1:=UX (UZ hb1 (UZ hb2 (UZ hb3 hG)));clear hb1 hb2 hb3 hG ha hb;go_upto_region 4 with(first|(refine sN (.tmp 8) (.tmp 20) ([.func (.func 55) #[] #[],.func (.func 56) #[] #[],.func (.func 57) #[] #[],.func (.func 58) #[] #[]]) (Ux w1 80 _) UB ?_ (h1:=(by intro v hv;simp at hv;rcases hv with rfl|rfl|rfl|rfl<;>rfl)) (us:=[.nilFunc,.nilFunc,.nilFunc,.nilFunc]);intro w3 hb8 k8 d8;have g3:A5 w1 w3:=Uw ((Uv w1).alloc _) k8 (fun i hi e=>by omega))|fail);have HB:=UX (show(∀w',A5 w3 w'→w'.rangeAt w.heap.size 5 (AA ea.num ea.den))∧(∀w',A5 w3 w'→w'.rangeAt (w.heap.size+1) 5 (AA eb.num eb.den))∧AK w3 (w.heap.size+1+1) 29 (AE 0 0).toArray∧A5 w w3 from⟨fun w' g=>(HB1.out.1.grew (g3.trans g)).rangeN 5 (AA ea.num ea.den) rfl,fun w' g=>(HB1.out.2.1.grew (g3.trans g)).rangeN 5 (AA eb.num eb.den) rfl,HB1.out.2.2.1.grew g3,HB1.out.2.2.2.trans g3⟩);clear c0 d0 HB1 k8 g3;generalize w1.heap.size=z8 at*;generalize ea.num=n1 at*;generalize ea.den=d1 at*;generalize eb.num=n2 at*;generalize eb.den=d2 at*;obtain rfl|rfl|rfl|rfl:fn=0∨fn=1∨fn=2∨fn=3:=by omega
 ·have HAP:=UX (fun w'=>Lc n1 d1 n2 d2 w' hn1 hd1 hn2 hd2);rw[show DQ n1 d1 n2 d2=(x,y,er)from hap]at HAP;simp only[BS]at HAP;have a0:w3.cell? ⟨z8,0,none⟩=some (.func (.func 55) #[] #[]):=hb8.cell 0;have HRW:=UX (show ∀w',A5 w3.drew w'→w'.cell? ⟨z8,0,none⟩=some (.func (.func 55) #[] #[])∧w'.rangeAt w.heap.size 5 (AA n1 d1)∧w'.rangeAt (w.heap.size+1) 5 (AA n2 d2)from fun w' g=>⟨((hb8.drewN 1).grew g).cell 0,(HB.out.1 _ ((Uy (Uv w3)).trans g)),(HB.out.2.1 _ ((Uy (Uv w3)).trans g))⟩);clear hap hn1 hd1 hn2 hd2 hb8 a0;refine CU (by kernel_rfl) 12 11 9 [10,13] [.int .i64 0,.pointer (some ⟨z8,0,none⟩),.func (.func 55) #[] #[],.pointer (some ⟨w.heap.size,5,none⟩),.agg (AA n1 d1).toArray,.pointer (some ⟨w.heap.size+1,5,none⟩),.agg (AA n2 d2).toArray,.tuple #[.agg (AA x y).toArray,.int .i64 er],.tuple #[.agg (AA x y).toArray,.int .i64 er],.agg (AA x y).toArray,.int .i64 er,undef,undef,.int .i64 er] 24 (AA 0 0) _ (by kernel_rfl) (by kernel_rfl) (by decide) (by decide) (by decide) (Ui (by kernel_rfl)) rfl (Ui (by kernel_rfl)) (by kernel_rfl) ?hH ?hal (AA x y) (.tmp 9) (.tmp 30) 24 _ rfl rfl rfl (by simp[Op.operands]) (by simp[Op.operands]) C1 rfl (BP _ _) (fun z=>by kernel_rfl) (fun z=>by kernel_rfl) ?hT
  case hH=>
   simp only[ny];refine hV (hV (hW (fun z w' hg=>?_) ?_))
   ·obtain⟨g1,g2,g3⟩:=HRW.out _ hg;go_simp;exact Uv _
   refine hV (hW (fun z w' hg=>?_) ?_)
   ·obtain⟨g1,g2,g3⟩:=HRW.out _ hg;exact mM (.tmp 25) g2 rF ⟨rfl,Uv _⟩
   refine hV (hW (fun z w' hg=>?_) ?_)
   ·obtain⟨g1,g2,g3⟩:=HRW.out _ hg;exact mM (.tmp 27) g3 rF ⟨rfl,Uv _⟩
   refine hW (fun z w' hg=>?_) ?_
   ·go_simp;(with_reducible refine(HAP.out _).mono ?_);rintro e wq ⟨rfl,kq⟩;exact⟨rfl,kq⟩
   exact hV (hV (hU (hA (hB (hU Dj)))))
  case hal=>
   intro o1 ho a1 w4 K hK;obtain rfl:=Uf ho;go_simp;exact hK _ rfl
  case hT=>
   intro z wz hz hbz hgz;dsimp only;simp only[ny];have m2:=HB.out.2.2.1.grew hgz;have hGz:=HB.out.2.2.2.trans hgz;obtain⟨eb2,heb⟩:∃q:Bool,(er==0)=q:=⟨_,rfl⟩;clear HRW HB hgz hz;go_wp2_with(first|(refine lN (.tmp 9) hbz rF ?_ (vs:=[.int .i64 x,.int .i64 y]))|(refine sN (.tmp 6) (.tmp 33) (AE x y) m2 rX ?_;intro w8 hb8 k8 d8)|fail);refine rT rX hb8 ?_;exact⟨by rw[heb];rfl,Uw hGz k8 (fun i hi e=>by omega)⟩
 ·have HAP:=UX (fun w'=>Pz n1 d1 n2 d2 w' hn1 hd1 hn2 hd2);rw[show GA n1 d1 n2 d2=(x,y,er)from hap]at HAP;simp only[BS]at HAP;have a0:w3.cell? ⟨z8,1,none⟩=some (.func (.func 56) #[] #[]):=hb8.cell 1;have HRW:=UX (show ∀w',A5 w3.drew w'→w'.cell? ⟨z8,1,none⟩=some (.func (.func 56) #[] #[])∧w'.rangeAt w.heap.size 5 (AA n1 d1)∧w'.rangeAt (w.heap.size+1) 5 (AA n2 d2)from fun w' g=>⟨((hb8.drewN 1).grew g).cell 1,(HB.out.1 _ ((Uy (Uv w3)).trans g)),(HB.out.2.1 _ ((Uy (Uv w3)).trans g))⟩);clear hap hn1 hd1 hn2 hd2 hb8 a0;refine CU (by kernel_rfl) 12 11 9 [10,13] [.int .i64 1,.pointer (some ⟨z8,1,none⟩),.func (.func 56) #[] #[],.pointer (some ⟨w.heap.size,5,none⟩),.agg (AA n1 d1).toArray,.pointer (some ⟨w.heap.size+1,5,none⟩),.agg (AA n2 d2).toArray,.tuple #[.agg (AA x y).toArray,.int .i64 er],.tuple #[.agg (AA x y).toArray,.int .i64 er],.agg (AA x y).toArray,.int .i64 er,undef,undef,.int .i64 er] 24 (AA 0 0) _ (by kernel_rfl) (by kernel_rfl) (by decide) (by decide) (by decide) (Ui (by kernel_rfl)) rfl (Ui (by kernel_rfl)) (by kernel_rfl) ?hH ?hal (AA x y) (.tmp 9) (.tmp 30) 24 _ rfl rfl rfl (by simp[Op.operands]) (by simp[Op.operands]) C1 rfl (BP _ _) (fun z=>by kernel_rfl) (fun z=>by kernel_rfl) ?hT
  case hH=>
   simp only[ny];refine hV (hV (hW (fun z w' hg=>?_) ?_))
   ·obtain⟨g1,g2,g3⟩:=HRW.out _ hg;go_simp;exact Uv _
   refine hV (hW (fun z w' hg=>?_) ?_)
   ·obtain⟨g1,g2,g3⟩:=HRW.out _ hg;exact mM (.tmp 25) g2 rF ⟨rfl,Uv _⟩
   refine hV (hW (fun z w' hg=>?_) ?_)
   ·obtain⟨g1,g2,g3⟩:=HRW.out _ hg;exact mM (.tmp 27) g3 rF ⟨rfl,Uv _⟩
   refine hW (fun z w' hg=>?_) ?_
   ·go_simp;(with_reducible refine(HAP.out _).mono ?_);rintro e wq ⟨rfl,kq⟩;exact⟨rfl,kq⟩
   exact hV (hV (hU (hA (hB (hU Dj)))))
  case hal=>
   intro o1 ho a1 w4 K hK;obtain rfl:=Uf ho;go_simp;exact hK _ rfl
  case hT=>
   intro z wz hz hbz hgz;dsimp only;simp only[ny];have m2:=HB.out.2.2.1.grew hgz;have hGz:=HB.out.2.2.2.trans hgz;obtain⟨eb2,heb⟩:∃q:Bool,(er==0)=q:=⟨_,rfl⟩;clear HRW HB hgz hz;go_wp2_with(first|(refine lN (.tmp 9) hbz rF ?_ (vs:=[.int .i64 x,.int .i64 y]))|(refine sN (.tmp 6) (.tmp 33) (AE x y) m2 rX ?_;intro w8 hb8 k8 d8)|fail);refine rT rX hb8 ?_;exact⟨by rw[heb];rfl,Uw hGz k8 (fun i hi e=>by omega)⟩
 ·have HAP:=UX (fun w'=>IV n1 d1 n2 d2 w' hn1 hd1 hn2 hd2);rw[show DE n1 d1 n2 d2=(x,y,er)from hap]at HAP;simp only[BS]at HAP;have a0:w3.cell? ⟨z8,2,none⟩=some (.func (.func 57) #[] #[]):=hb8.cell 2;have HRW:=UX (show ∀w',A5 w3.drew w'→w'.cell? ⟨z8,2,none⟩=some (.func (.func 57) #[] #[])∧w'.rangeAt w.heap.size 5 (AA n1 d1)∧w'.rangeAt (w.heap.size+1) 5 (AA n2 d2)from fun w' g=>⟨((hb8.drewN 1).grew g).cell 2,(HB.out.1 _ ((Uy (Uv w3)).trans g)),(HB.out.2.1 _ ((Uy (Uv w3)).trans g))⟩);clear hap hn1 hd1 hn2 hd2 hb8 a0;refine CU (by kernel_rfl) 12 11 9 [10,13] [.int .i64 2,.pointer (some ⟨z8,2,none⟩),.func (.func 57) #[] #[],.pointer (some ⟨w.heap.size,5,none⟩),.agg (AA n1 d1).toArray,.pointer (some ⟨w.heap.size+1,5,none⟩),.agg (AA n2 d2).toArray,.tuple #[.agg (AA x y).toArray,.int .i64 er],.tuple #[.agg (AA x y).toArray,.int .i64 er],.agg (AA x y).toArray,.int .i64 er,undef,undef,.int .i64 er] 24 (AA 0 0) _ (by kernel_rfl) (by kernel_rfl) (by decide) (by decide) (by decide) (Ui (by kernel_rfl)) rfl (Ui (by kernel_rfl)) (by kernel_rfl) ?hH ?hal (AA x y) (.tmp 9) (.tmp 30) 24 _ rfl rfl rfl (by simp[Op.operands]) (by simp[Op.operands]) C1 rfl (BP _ _) (fun z=>by kernel_rfl) (fun z=>by kernel_rfl) ?hT
  case hH=>
   simp only[ny];refine hV (hV (hW (fun z w' hg=>?_) ?_))
   ·obtain⟨g1,g2,g3⟩:=HRW.out _ hg;go_simp;exact Uv _
   refine hV (hW (fun z w' hg=>?_) ?_)
   ·obtain⟨g1,g2,g3⟩:=HRW.out _ hg;exact mM (.tmp 25) g2 rF ⟨rfl,Uv _⟩
   refine hV (hW (fun z w' hg=>?_) ?_)
   ·obtain⟨g1,g2,g3⟩:=HRW.out _ hg;exact mM (.tmp 27) g3 rF ⟨rfl,Uv _⟩
   refine hW (fun z w' hg=>?_) ?_
   ·go_simp;(with_reducible refine(HAP.out _).mono ?_);rintro e wq ⟨rfl,kq⟩;exact⟨rfl,kq⟩
   exact hV (hV (hU (hA (hB (hU Dj)))))
  case hal=>
   intro o1 ho a1 w4 K hK;obtain rfl:=Uf ho;go_simp;exact hK _ rfl
  case hT=>
   intro z wz hz hbz hgz;dsimp only;simp only[ny];have m2:=HB.out.2.2.1.grew hgz;have hGz:=HB.out.2.2.2.trans hgz;obtain⟨eb2,heb⟩:∃q:Bool,(er==0)=q:=⟨_,rfl⟩;clear HRW HB hgz hz;go_wp2_with(first|(refine lN (.tmp 9) hbz rF ?_ (vs:=[.int .i64 x,.int .i64 y]))|(refine sN (.tmp 6) (.tmp 33) (AE x y) m2 rX ?_;intro w8 hb8 k8 d8)|fail);refine rT rX hb8 ?_;exact⟨by rw[heb];rfl,Uw hGz k8 (fun i hi e=>by omega)⟩
 have HAP:=UX (fun w'=>QQ n1 d1 n2 d2 w' hn1 hd1 hn2 hd2);rw[show GL n1 d1 n2 d2=(x,y,er)from hap]at HAP;simp only[BS]at HAP;have a0:w3.cell? ⟨z8,3,none⟩=some (.func (.func 58) #[] #[]):=hb8.cell 3;have HRW:=UX (show ∀w',A5 w3.drew w'→w'.cell? ⟨z8,3,none⟩=some (.func (.func 58) #[] #[])∧w'.rangeAt w.heap.size 5 (AA n1 d1)∧w'.rangeAt (w.heap.size+1) 5 (AA n2 d2)from fun w' g=>⟨((hb8.drewN 1).grew g).cell 3,(HB.out.1 _ ((Uy (Uv w3)).trans g)),(HB.out.2.1 _ ((Uy (Uv w3)).trans g))⟩);clear hap hn1 hd1 hn2 hd2 hb8 a0;refine CU (by kernel_rfl) 12 11 9 [10,13] [.int .i64 3,.pointer (some ⟨z8,3,none⟩),.func (.func 58) #[] #[],.pointer (some ⟨w.heap.size,5,none⟩),.agg (AA n1 d1).toArray,.pointer (some ⟨w.heap.size+1,5,none⟩),.agg (AA n2 d2).toArray,.tuple #[.agg (AA x y).toArray,.int .i64 er],.tuple #[.agg (AA x y).toArray,.int .i64 er],.agg (AA x y).toArray,.int .i64 er,undef,undef,.int .i64 er] 24 (AA 0 0) _ (by kernel_rfl) (by kernel_rfl) (by decide) (by decide) (by decide) (Ui (by kernel_rfl)) rfl (Ui (by kernel_rfl)) (by kernel_rfl) ?hH ?hal (AA x y) (.tmp 9) (.tmp 30) 24 _ rfl rfl rfl (by simp[Op.operands]) (by simp[Op.operands]) C1 rfl (BP _ _) (fun z=>by kernel_rfl) (fun z=>by kernel_rfl) ?hT
 case hH=>
  simp only[ny];refine hV (hV (hW (fun z w' hg=>?_) ?_))
  ·obtain⟨g1,g2,g3⟩:=HRW.out _ hg;go_simp;exact Uv _
  refine hV (hW (fun z w' hg=>?_) ?_)
  ·obtain⟨g1,g2,g3⟩:=HRW.out _ hg;exact mM (.tmp 25) g2 rF ⟨rfl,Uv _⟩
  refine hV (hW (fun z w' hg=>?_) ?_)
  ·obtain⟨g1,g2,g3⟩:=HRW.out _ hg;exact mM (.tmp 27) g3 rF ⟨rfl,Uv _⟩
  refine hW (fun z w' hg=>?_) ?_
  ·go_simp;(with_reducible refine(HAP.out _).mono ?_);rintro e wq ⟨rfl,kq⟩;exact⟨rfl,kq⟩
  exact hV (hV (hU (hA (hB (hU Dj)))))
 case hal=>
  intro o1 ho a1 w4 K hK;obtain rfl:=Uf ho;go_simp;exact hK _ rfl
 case hT=>
  intro z wz hz hbz hgz;dsimp only;simp only[ny];have m2:=HB.out.2.2.1.grew hgz;have hGz:=HB.out.2.2.2.trans hgz;obtain⟨eb2,heb⟩:∃q:Bool,(er==0)=q:=⟨_,rfl⟩;clear HRW HB hgz hz;go_wp2_with(first|(refine lN (.tmp 9) hbz rF ?_ (vs:=[.int .i64 x,.int .i64 y]))|(refine sN (.tmp 6) (.tmp 33) (AE x y) m2 rX ?_;intro w8 hb8 k8 d8)|fail);refine rT rX hb8 ?_;exact⟨by rw[heb];rfl,Uw hGz k8 (fun i hi e=>by omega)⟩
theorem JE (fn:Int) (ea eb:Ex) (v1 v2 v3 v4 v5 v6:Value) (w:World) (hab:¬(ea.kind=0∧eb.kind=0)):
  Calls Tryz.prog 33 #[.int .i64 fn,.agg (A8 ea v1 v2 v3).toArray,.agg (A8 eb v4 v5 v6).toArray] w fun e' w'=>e'= .returned (.tuple #[.agg (AE 0 0).toArray,.bool false])∧A5 w w':=by
 obtain⟨hb1,hb2,hb3,hG⟩:=BO w 29 29 29 (A8 ea v1 v2 v3).toArray (A8 eb v4 v5 v6).toArray (AE 0 0).toArray;go_enter Tryz.func33,Tryz.ntmps33;go_upto_region 1 with fail;change Code.wp _ _ _ _ (((w.alloc (.cells (A8 ea v1 v2 v3).toArray 29)).alloc (.cells (A8 eb v4 v5 v6).toArray 29)).alloc (.cells (AE 0 0).toArray 29));generalize ((w.alloc (.cells (A8 ea v1 v2 v3).toArray 29)).alloc (.cells (A8 eb v4 v5 v6).toArray 29)).alloc (.cells (AE 0 0).toArray 29)=w1 at*;have c0:w1.cell? ⟨w.heap.size,0,none⟩=some (.int .i64 ea.kind):=hb1.cell 0;have d0:w1.cell? ⟨w.heap.size+1,0,none⟩=some (.int .i64 eb.kind):=hb2.cell 0;have HG:=UX hG;clear hG hb1 hb2;by_cases ha:ea.kind=0
 ·have hb:¬eb.kind=0:=fun h=>hab ⟨ha,h⟩
  have t1:(ea.kind==0)=true:=by rw[Ud];exact ha
  have t1':(ea.kind !=0)=false:=by rw[bne,t1];rfl
  have t2:(eb.kind==0)=false:=by rw[UY];exact hb
  have t2':(eb.kind !=0)=true:=by rw[bne,t2];rfl
  clear ha hb hab;go_wp2_with(first|(refine sN (.tmp 6) (.tmp 19) (AE 0 0) hb3 rX ?_;intro w8 hb8 k8 d8)|fail);refine rT rX hb8 ?_;exact⟨rfl,Uw HG.out k8 (fun i hi e=>by omega)⟩
 have t1:(ea.kind==0)=false:=by rw[UY];exact ha
 have t1':(ea.kind !=0)=true:=by rw[bne,t1];rfl
 clear ha hab;go_wp2_with(first|(refine sN (.tmp 6) (.tmp 19) (AE 0 0) hb3 rX ?_;intro w8 hb8 k8 d8)|fail);refine rT rX hb8 ?_;exact⟨rfl,Uw HG.out k8 (fun i hi e=>by omega)⟩
theorem AN.two_le {w:World} {B M M':Nat} {e:Ex} {cs:List Value} (h:AN w (C9 B M w.heap.size) e cs) (hM:M'≤M):AN w (C9 B M' w.heap.size) e cs:=
 AN.keep (S:=fun _=>False) (fun b hb=>⟨hb.2,fun h=>h,by rcases hb.1 with h1|h1;exact .inl h1;exact .inr (by omega),hb.2⟩) (Uv w) e cs h
theorem SE:(Tryz.prog.info? 65).map (·.size)=some 1:=by kernel_rfl
theorem TE:J3 65 1:=⟨SE,_,Tryz.underlying65,rfl⟩
theorem Rw:(Tryz.prog.info? 66).map (·.size)=some 6:=by kernel_rfl
theorem TW:J3 66 6:=⟨Rw,_,Tryz.underlying66,rfl⟩
theorem JD:∀(k:Nat) (e:Ex),AD e≤k→k≤1000000→Aw KF e→∀(w:World) (B0:Nat) (cs:List Value),B0≤w.heap.size→BC w B0 e cs→
  Calls Tryz.prog 19 #[.agg cs.toArray,.int .i64 1] w (E1 w B0 (AS e))
 |0,e,h,_,_,_,_,_,_,_=>absurd (AZ e) (by omega)
 |k+1,e,hk,hk2,hok,w,B0,cs,hB0,hr=>by
  obtain⟨vm,vb,vk,rfl,hm,hy,hT⟩:=hr.open_;obtain⟨Am,nm,km,rfl⟩:∃A n c,vm= .slice A n c:=by obtain⟨A,c,h, -⟩:=hm;exact⟨A,_,c,h⟩
  obtain⟨Ab,nb,kb,rfl⟩:∃A n c,vb= .slice A n c:=by obtain⟨A,c,h, -⟩:=hy;exact⟨A,_,c,h⟩
  obtain⟨A,n,c,rfl,hn, -⟩:=hT.slice;have hne:=Ao e;have hkl:=B9 e.kids;have HIH:=UX (fun(e':Ex) (w':World) (cs:List Value) (h0:B0≤w'.heap.size) (h1:e'∈e.kids) (h2:BC w' B0 e' cs)=>JD k e' (by have:=AT h1;omega) (by omega) (hok.kid h1) w' B0 cs h0 h2);have HT:=UX hT;have HN:=UX hn;have HMY:=UX (UZ hm hy);have HOK:=UX hok;have HB0:=UX hB0;have hnb:n≤1000000:=by omega
  obtain⟨hb1,hb2,hG⟩:=BI w 29 29 (A8 e (.slice Am nm km) (.slice Ab nb kb) (.slice A n c)).toArray (AE 0 0).toArray;have hs2:((w.alloc (.cells (A8 e (.slice Am nm km) (.slice Ab nb kb) (.slice A n c)).toArray 29)).alloc (.cells (AE 0 0).toArray 29)).heap.size=w.heap.size+2:=by simp
  clear hr hm hy hT hn hne hkl hk hk2 hok hB0;go_enter Tryz.func19,Tryz.ntmps19;go_upto_region 1 with fail;change Code.wp _ _ _ _ ((w.alloc (.cells (A8 e (.slice Am nm km) (.slice Ab nb kb) (.slice A n c)).toArray 29)).alloc (.cells (AE 0 0).toArray 29));generalize (w.alloc (.cells (A8 e (.slice Am nm km) (.slice Ab nb kb) (.slice A n c)).toArray 29)).alloc (.cells (AE 0 0).toArray 29)=w1 at*;have HS:=UX hs2;clear hs2;go_upto_region 2 with(first|(refine sN (.tmp 5) (.tmp 19) ([.func (.func 33) #[] #[],.func (.func 34) #[] #[],.func (.func 35) #[] #[],.func (.func 36) #[] #[],.func (.func 37) #[] #[],.func (.func 38) #[] #[]]) (Ux w1 66 _) TW ?_ (h1:=(by intro v hv;simp at hv;rcases hv with rfl|rfl|rfl|rfl|rfl|rfl<;>rfl)) (us:=[.nilFunc,.nilFunc,.nilFunc,.nilFunc,.nilFunc,.nilFunc]);intro w2 hb5 k5 d5;have g2:A5 w1 w2:=Uw ((Uv w1).alloc _) k5 (fun i hi e=>by omega))|fail);have c10:w2.cell? ⟨w.heap.size,10,none⟩=some (.slice A n c):=(hb1.grew g2).cell 10;go_upto_region 3 with(first|((with_reducible refine K8 27 (.const (.int .i64 0)) (.tmp 22) rfl ?_);refine MJ rfl (.const (.int .i64 0)) (.tmp 22) rfl n rfl rfl hnb ?_;intro w3 hM3 g3));have HB:=UX (UZ (hb1.grew (g2.trans g3)) (UZ (hb2.grew (g2.trans g3)) (UZ (hb5.grew g3) (hG.trans (g2.trans g3)))));have HM3:=UX hM3;have HSZ:=UX (show w.heap.size+2≤w1.heap.size∧w1.heap.size<w2.heap.size∧w2.heap.size≤w3.heap.size from⟨by have:=HS.out;omega,hb5.lt,g3.size⟩);clear hb1 hb2 hb5 hG g2 g3 hM3 c10 k5 d5;have c10:w3.cell? ⟨w.heap.size,10,none⟩=some (.slice A n c):=HB.out.1.cell 10;generalize w2.heap.size=M at*;go_wp2_with fail;go_loopw [6,8,27] (fun s _ i wr=>∃(j:Nat) (rows:List (List Value)),j≤n∧i= .int .i64 (j:Nat)∧AX wr M 29 11 s rows∧Bz wr (LE B0 M s wr.heap.size) ((e.kids.take j).map AS) rows∧A4 (fun i=>M≤i) w3 wr) (fun _ _ i _=>n-(intOf i).toNat)
  case atStart=>exact⟨0,[],by omega,rfl,HM3.out,by simpa using Bz.nil _ _,Uz _ _⟩
  case round=>
   obtain⟨j,rows,hj,rfl,hM,hTr,hGr⟩:=hrel;obtain⟨As,ns,ks,rfl,hns, -⟩:=hM.slice;have HM:=UX hM;have HTr:=UX hTr;have HNS:=UX hns;have HGr:=UX hGr;clear hM hTr hns hGr;by_cases hlt:j<n
   ·have hjl:j<e.kids.length:=by rw[←HN.out];exact hlt
    obtain⟨e',he'⟩:∃e',e.kids[j]? =some e':=⟨_,Uc hjl⟩;have hmem:e'∈e.kids:=Uk he';have hgw:A5 w wr:=Uw HB.out.2.2.2 HGr.out fun i hi (e:M≤i)=>by have:=HSZ.out;omega
    have hTw:Gw wr B0 (.slice A n c) e.kids:=HT.out.keep HB0.out (Ua _) hgw (fun _ _ h=>h);obtain⟨b,o,cs,rfl,hb,hrg,hre⟩:=hTw.at_ he';obtain⟨vm',vb',vk',hcs,hm',hy',hT'⟩:=hre.open_;subst hcs;obtain⟨A1,n1,c1,rfl⟩:∃A n c,vm'= .slice A n c:=by obtain⟨A,c,h, -⟩:=hm';exact⟨A,_,c,h⟩
    obtain⟨A2,n2,c2,rfl⟩:∃A n c,vb'= .slice A n c:=by obtain⟨A,c,h, -⟩:=hy';exact⟨A,_,c,h⟩
    obtain⟨A3,n3,c3,rfl, -⟩:=hT'.slice;have hsw:M≤wr.heap.size:=by have:=HGr.out.size;have:=HSZ.out;omega
    have HI:=UX (fun w' (g:A5 wr w')=>HIH.out e' w' _ (by have:=HB0.out;have:=HSZ.out;have:=g.size;omega) hmem (BC.keep (by have:=HB0.out;have:=HSZ.out;omega) (Ua _) g (fun _ _ h=>h) e' _ hre));have HE:=UX he';have HRg:=UX hrg;have HSW:=UX hsw;clear hjl he' hmem hTw hrg hre hm' hy' hT' hsw hgw;go_wp2_with(first|(refine lM (.tmp 29) HRg.out rX ?_)|(refine sN (.tmp 8) (.tmp 30) (A8 e' (.slice A1 n1 c1) (.slice A2 n2 c2) (.slice A3 n3 c3)) (Ux wr 29 _) rX ?_ (us:=(AE 0 0));intro w5 hb5 k5 d5;have g5:A5 wr w5:=Uw ((Uv wr).alloc _) k5 (fun i hi e=>by omega))|(refine lN (.tmp 8) hb5 rX ?_)|fail);refine(HI.out _ g5).mono ?_;rintro e2 w6 ⟨cs3,rfl,hr3,k3⟩;obtain⟨vm3,vb3,vk3,rfl,hm3,hy3,hT3⟩:=hr3.open_;obtain⟨Am3,QU,km3,rfl, -⟩:=hm3.slice;obtain⟨Ab3,nb3,kb3,rfl, -⟩:=hy3.slice;obtain⟨A3',n3',c3',rfl, -⟩:=hT3.slice;have HR3:=UX (AN.two_le (M':=wr.heap.size) hr3 g5.size);have HK3:=UX (g5.trans k3);have hl3:=CO (AS e') (.slice Am3 QU km3) (.slice Ab3 nb3 kb3) (.slice A3' n3' c3');clear k3 HI hr3 hm3 hy3 hT3 g5 hb5 k5 d5;go_wp2_with(at_builtin;refine GI rfl (.tmp 31) (.tmp 35) rfl rfl rfl (Ua _) HM.out HTr.out (by have:=HB0.out;have:=HSZ.out;omega) HSW.out HK3.out HR3.out (by rw[List.length_map,List.length_take];omega) ?_;intro A6 n6 c6 w7 H6);go_wp2_with fail;go_roundw
    case rel=>
     obtain⟨rows6,hM6,hT6,hG6⟩:=H6.out;have hes:(e.kids.take j).map AS++[AS e']=(e.kids.take (j+1)).map AS:=by rw[List.take_add_one,HE.out];simp
     rw[hes]at hT6;exact⟨j+1,_,by omega,by go_num,hM6,hT6,A4.trans HGr.out hG6⟩
    case measure=>simp[intOf];omega
   obtain rfl:j=n:=by omega
   have hes:(e.kids.take j).map AS=e.kids.map AS:=by rw[List.take_of_length_le (by rw[←HN.out];exact Ua _)]
   have hTr:=HTr.out;have hM:=HM.out;rw[hes]at hTr;have hm1:=hM.lt;have hTQ:Ca wr (C9 B0 M wr.heap.size) (.slice As ns ks) (e.kids.map AS):=hM.treesQ hTr.1 (fun b hb=>⟨.inr (hm1 b hb).1,(hm1 b hb).2⟩) fun i e' cs h1 h2=>AN.keep (S:=fun _=>False) (fun b hb=>⟨hb.2.1,fun h=>h,hb.1,hb.2.1⟩) (Uv wr) e' cs (hTr.2 i e' cs h1 h2)
   have hsz:=HSZ.out;have hbr:=HB.out.1.keep HGr.out (by omega);have hb2:=HB.out.2.1.keep HGr.out (by omega);have hb5:=HB.out.2.2.1.keep HGr.out (by omega);have hgw:A5 w wr:=Uw HB.out.2.2.2 HGr.out fun i hi (e:M≤i)=>by omega
   have f10:=hbr.frozen 10;have hb4:AK (wr.setCell ⟨w.heap.size,10,none⟩ (.slice As ns ks)) w.heap.size 29 ((A8 e (.slice Am nm km) (.slice Ab nb kb) (.slice As ns ks))).toArray:=hbr.set_ 10 (.slice As ns ks);have k4:A4 (fun i=>i=w.heap.size) wr (wr.setCell ⟨w.heap.size,10,none⟩ (.slice As ns ks)):=V0 (S:=fun i=>i=w.heap.size) (p:=⟨w.heap.size,10,none⟩) (Uz _ wr) (.inl rfl) _;have hsz4:(wr.setCell ⟨w.heap.size,10,none⟩ (.slice As ns ks)).heap.size=wr.heap.size:=by simp
   have HNs:=UX (show ns=e.kids.length by have:=hTr.1;rw[List.length_map]at this;rw[HNS.out,this]);have HTQ:=UX hTQ;have HE4:=UX (UZ hb4 (UZ (hb2.far (p:=⟨w.heap.size,10,none⟩) (by simp) (.slice As ns ks)) (UZ (hb5.far (p:=⟨w.heap.size,10,none⟩) (by simp;omega) (.slice As ns ks)) (UZ k4 (UZ hsz4 (UZ hgw HGr.out.size))))));have c10':wr.cell? ⟨w.heap.size,10,none⟩=some (.slice A j c):=hbr.cell 10;clear hTQ hbr hb2 hb5 hgw hb4 k4 hsz4 hM hTr HM HTr HNS hes hm1 hsz c10;go_upto_region 9 with fail;generalize wr.setCell ⟨w.heap.size,10,none⟩ (.slice As ns ks)=w4 at*;obtain⟨hb4,hb2,hb5,k4,hsz4,hgw,hw1⟩:=HE4.out;have hsz:=HSZ.out;have hB0:=HB0.out;have hTQ4:Ca w4 (C9 B0 M wr.heap.size) (.slice As ns ks) (e.kids.map AS):=HTQ.out.keep (S:=fun i=>i=w.heap.size) (fun b hb=>⟨hb.2,fun h=>by rcases hb.1 with h1|h1<;>omega,hb⟩) k4;have hgw4:A5 w w4:=Uw hgw k4 fun i hi e=>by omega
   have hMY4:Bs w4 B0 3 (.slice Am nm km) (e.ms.map AL)∧Bs w4 B0 1 (.slice Ab nb kb) (e.bys.map fun s=>[Value.string s]):=⟨HMY.out.1.keep hB0 (Ua _) hgw4 (fun _ _ h=>h),HMY.out.2.keep hB0 (Ua _) hgw4 (fun _ _ h=>h)⟩;have hE4:∀w',A5 w4 w'→AN w' (C9 B0 M w'.heap.size) (e.withKids (e.kids.map AS)) (A8 e (.slice Am nm km) (.slice Ab nb kb) (.slice As ns ks)):=fun w' g=>by
    have hsz:=g.size;have h1:=AN.mk_ (e:=e.withKids (e.kids.map AS)) (Q:=C9 B0 M w'.heap.size) (w:=w') (vm:= .slice Am nm km) (vb:= .slice Ab nb kb) (vk:= .slice As ns ks) (by rw[Ig];exact(hMY4.1.keep (by omega) (Ua _) g (fun _ _ h=>h)).toQ fun b hb=>⟨.inl hb,by omega⟩) (by rw[Gx];exact(hMY4.2.keep (by omega) (Ua _) g (fun _ _ h=>h)).toQ fun b hb=>⟨.inl hb,by omega⟩) (by rw[Bq];exact hTQ4.keep (fun b hb=>⟨by have:=hb.2;omega,fun h=>h,hb.1,by have:=hb.2;omega⟩) g);rwa[D5]at h1
   have HRES:=UX hE4;have hM2:w.heap.size+2≤M:=by omega
   have HFIN:=UX (fun(w5 w8:World) (e5:Ex) (cs:List Value) (k8:A4 (fun i=>i=w.heap.size+1) w5 w8) (h:AN w5 (C9 B0 M w5.heap.size) e5 cs)=>Ck k8 hB0 hM2 h);have c0:w4.cell? ⟨w.heap.size,0,none⟩=some (.int .i64 e.kind):=hb4.cell 0;by_cases h3:e.kind=3
   ·have t1:(e.kind==3)=true:=by simpa using h3
    have hp:=HOK.out.top.2 h3;have h64:=HOK.out.top.1;obtain⟨ea,eb,hks⟩:∃ea eb,e.kids=[ea,eb]:=by
     rcases hq:e.kids with _|⟨a,_|⟨b,_|⟨d,l⟩⟩⟩<;>rw[hq]at hp<;>simp at hp;exact⟨a,b,rfl⟩
    have hk4:(e.withKids (e.kids.map AS)).kids=[AS ea,AS eb]:=by rw[Bq,hks];rfl
    have h34:(e.withKids (e.kids.map AS)).kind=3:=by rw[Cg];exact h3
    have h64a:DX (AS ea):=Gf (HOK.out.kid (by rw[hks];simp)).top.1;have h64b:DX (AS eb):=Gf (HOK.out.kid (by rw[hks];simp)).top.1;obtain rfl:ns=2:=by rw[HNs.out,hks];rfl
    have hks2:e.kids.map AS=[AS ea,AS eb]:=by rw[hks];rfl
    rw[hks2]at hTQ4;obtain⟨b,o,csa,rfl,hbq,hra,hea⟩:=hTQ4.at_ (j:=0) (e:=AS ea) rfl;obtain⟨b',o',csb,hbo, -,hrb,heb⟩:=hTQ4.at_ (j:=1) (e:=AS eb) rfl;simp only[Ur,Addr.mk.injEq,and_true]at hbo;obtain⟨rfl,rfl⟩:=hbo;obtain⟨va1,va2,va3,rfl,hq1,hq2,hq3⟩:=hea.open_;obtain⟨Aa1,na1,ca1,rfl, -⟩:=hq1.slice;obtain⟨Aa2,na2,ca2,rfl, -⟩:=hq2.slice;obtain⟨Aa3,na3,ca3,rfl, -⟩:=hq3.slice;obtain⟨ve1,ve2,ve3,rfl,hq4,hq5,hq6⟩:=heb.open_;obtain⟨Ab1,nb1,cb1,rfl, -⟩:=hq4.slice;obtain⟨Ab2,nb2,cb2,rfl, -⟩:=hq5.slice;obtain⟨Ab3,nb3,cb3,rfl, -⟩:=hq6.slice;have hrows:∀w',A5 w4 w'→w'.rangeAt b o (A8 (AS ea) (.slice Aa1 na1 ca1) (.slice Aa2 na2 ca2) (.slice Aa3 na3 ca3))∧w'.rangeAt b (o+11) (A8 (AS eb) (.slice Ab1 nb1 cb1) (.slice Ab2 nb2 cb2) (.slice Ab3 nb3 cb3)):=fun w' g=>⟨by have:=AR hra (by have:=hbq.2;omega) g (fun h=>h);simpa using this,by have:=AR hrb (by have:=hbq.2;omega) g (fun h=>h);simpa using this⟩
    obtain⟨x,y,ok,hF,hXt,hXf⟩:∃(x y:Int) (ok:Bool),(∀w',Calls Tryz.prog 33 #[.int .i64 e.fn,.agg (A8 (AS ea) (.slice Aa1 na1 ca1) (.slice Aa2 na2 ca2) (.slice Aa3 na3 ca3)).toArray,.agg (A8 (AS eb) (.slice Ab1 nb1 cb1) (.slice Ab2 nb2 cb2) (.slice Ab3 nb3 cb3)).toArray] w' fun e' w''=>e'= .returned (.tuple #[.agg (AE x y).toArray,.bool ok])∧A5 w' w'')∧(ok=true→AS e=Ay x y)∧(ok=false→AS e=e.withKids (e.kids.map AS)):=by
     by_cases hz:(AS ea).kind=0∧(AS eb).kind=0
     ·obtain⟨⟨x,y,er⟩,hap⟩:∃r,Bc e.fn (AS ea).num (AS ea).den (AS eb).num (AS eb).den=r:=⟨_,rfl⟩;refine⟨x,y,er==0,fun w'=>Jr e.fn (AS ea) (AS eb) _ _ _ _ _ _ w' hz.1 hz.2 ⟨hp.2.1,hp.2.2⟩ h64a.2.2.2.2.2.1 h64a.2.2.2.2.2.2 h64b.2.2.2.2.2.1 h64b.2.2.2.2.2.2 x y er hap,fun hok=>?_,fun hok=>?_⟩
      ·obtain rfl:er=0:=by simpa using hok
       rw[CK];exact Jf hk4 h34 hz.1 hz.2 (by rw[JX];exact hap)
      rw[CK];exact JV (x:=x) (y:=y) (er:=er) hk4 (by rw[JX];exact hap) (by simpa using hok)
     refine⟨0,0,false,fun w'=>JE e.fn (AS ea) (AS eb) _ _ _ _ _ _ w' hz,(fun h=>nomatch h),fun _=>?_⟩;rw[CK];exact FI fun _=>⟨_,_,hk4,hz⟩
    have HAP:=UX hF;have HXT:=UX hXt;have HXF:=UX hXf;have HROW:=UX hrows;have hb5c:∀w',A5 w4 w'→AK w' w1.heap.size 66 ([.func (.func 33) #[] #[],.func (.func 34) #[] #[],.func (.func 35) #[] #[],.func (.func 36) #[] #[],.func (.func 37) #[] #[],.func (.func 38) #[] #[]]:List Value).toArray:=fun w' g=>hb5.grew g
    have HB5:=UX hb5c;have HB24:=UX (UZ hb4 (UZ hb2 hgw4));clear hE4 hTQ4 hMY4 h3 hB0 hsz4 hgw k4 hF hXt hXf hp h64 h64a h64b hk4 h34 hks hks2 hra hrb hea heb hq1 hq2 hq3 hq4 hq5 hq6 hbq hrows hb5c hsz hw1 hM2 hb5 hb4 hb2 hgw4;have HFN:=UX (show ∀w',A5 w4 w'→w'.cell? ⟨w.heap.size,1,none⟩=some (.int .i64 e.fn)from fun w' g=>(HB24.out.1.grew g).cell 1);generalize e.fn=fnv at*;go_wp2_with fail;go_loopw [10,11,12,46] (fun _ _ _ i wr=>∃m:Int,i= .int .i64 m∧(m=0∨m=1∧ok=false)∧A5 w4 wr) (fun _ _ _ i _=>1-(intOf i).toNat)
    case atStart=>exact⟨0,rfl,.inl rfl,Uv _⟩
    case round=>
     obtain⟨m,rfl,hm,hg⟩:=hrel;have HGX:=UX hg;have r0:wr.rangeAt w1.heap.size 0 [.func (.func 33) #[] #[]]:=(HB5.out wr hg).rangeN 0 [.func (.func 33) #[] #[]] rfl;have r0c:wr.cell? ⟨w1.heap.size,0,none⟩=some (.func (.func 33) #[] #[]):=(HB5.out wr hg).cell 0;have b4:=HB24.out.1.grew hg;have b2:=HB24.out.2.1.grew hg;rcases hm with rfl|⟨rfl,rfl⟩
     ·clear hg;go_upto_region 13 with(first|(refine sN (.tmp 10) (.tmp 49) ([.func (.func 33) #[] #[]]) (Ux wr 65 _) TE ?_ (h1:=(by intro v hv;simp at hv;subst hv;rfl)) (us:=[.nilFunc]);intro w7 hb10 k10 d10;have g7:A5 wr w7:=Uw ((Uv wr).alloc _) k10 (fun i hi e=>by omega))|fail);have h7:A5 w4 w7:=HGX.out.trans g7;have HRW:=UX (show ∀w',A5 w7.drew w'→w'.cell? ⟨wr.heap.size,0,none⟩=some (.func (.func 33) #[] #[])∧w'.cell? ⟨w.heap.size,1,none⟩=some (.int .i64 fnv)∧w'.rangeAt b o (A8 (AS ea) (.slice Aa1 na1 ca1) (.slice Aa2 na2 ca2) (.slice Aa3 na3 ca3))∧w'.rangeAt b (o+11) (A8 (AS eb) (.slice Ab1 nb1 cb1) (.slice Ab2 nb2 cb2) (.slice Ab3 nb3 cb3))from fun w' g=>by
       have gg:A5 w7 w':=(Uy (Uv w7)).trans g;exact⟨(hb10.grew gg).cell 0,HFN.out w' (h7.trans gg),HROW.out w' (h7.trans gg)⟩)
      have b47:=b4.grew g7;have b27:=b2.grew g7;have HB7:=UX (UZ b47 (UZ b27 h7));clear b4 b2 b47 b27 h7 g7 hb10 k10 d10 r0 r0c;generalize wr.heap.size=z10 at*;refine CU (by kernel_rfl) 15 14 11 [13,16] [.pointer (some ⟨z10,0,none⟩),.func (.func 33) #[] #[],.pointer (some ⟨w.heap.size,1,none⟩),.int .i64 fnv,.slice (some ⟨b,o,none⟩) 2 ks,.pointer (some ⟨b,o,none⟩),.agg (A8 (AS ea) (.slice Aa1 na1 ca1) (.slice Aa2 na2 ca2) (.slice Aa3 na3 ca3)).toArray,.slice (some ⟨b,o,none⟩) 2 ks,.pointer (some ⟨b,o+11,none⟩),.agg (A8 (AS eb) (.slice Ab1 nb1 cb1) (.slice Ab2 nb2 cb2) (.slice Ab3 nb3 cb3)).toArray,.tuple #[.agg (AE x y).toArray,.bool ok],.tuple #[.agg (AE x y).toArray,.bool ok],.agg (AE x y).toArray,.bool ok,undef,undef,.bool ok] 29 (AE 0 0) _ (by kernel_rfl) (by kernel_rfl) (by decide) (by decide) (by decide) (Ui (by kernel_rfl)) rfl (Ui (by kernel_rfl)) (by kernel_rfl) ?hH ?hal (AE x y) (.tmp 11) (.tmp 62) 29 _ rfl rfl rfl (by simp[Op.operands]) (by simp[Op.operands]) Bd rfl (Fa _ _) (fun z=>by kernel_rfl) (fun z=>by kernel_rfl) ?hT
      case hH=>
       simp only[ny];refine hV (hW (fun z w' hg=>?_) ?_)
       ·obtain⟨g1,g2,g3,g4⟩:=HRW.out _ hg;go_simp;exact Uv _
       refine hV (hW (fun z w' hg=>?_) ?_)
       ·obtain⟨g1,g2,g3,g4⟩:=HRW.out _ hg;go_simp;exact Uv _
       refine hV (hV (hW (fun z w' hg=>?_) ?_))
       ·obtain⟨g1,g2,g3,g4⟩:=HRW.out _ hg;exact mM (.tmp 56) g3 rX ⟨rfl,Uv _⟩
       refine hV (hV (hW (fun z w' hg=>?_) ?_))
       ·obtain⟨g1,g2,g3,g4⟩:=HRW.out _ hg;exact mM (.tmp 59) g4 rX ⟨rfl,Uv _⟩
       refine hW (fun z w' hg=>?_) ?_
       ·go_simp;(with_reducible refine(HAP.out _).mono ?_);rintro e wq ⟨rfl,kq⟩;exact⟨rfl,kq⟩
       exact hV (hV (hU (hA (hB (hU Dj)))))
      case hal=>
       intro o1 ho a1 w8 K hK;obtain rfl:=Uf ho;go_simp;exact hK _ rfl
      case hT=>
       intro z wz hz hbz hgz;dsimp only;simp only[ny];have b2z:=HB7.out.2.1.grew hgz;have HGZ:=UX (HB7.out.2.2.trans hgz);clear HRW hz hgz;rcases ok with _|_
       ·go_wp2_with fail;go_roundw
        case rel=>exact⟨1,rfl,.inr ⟨rfl,trivial⟩,HGZ.out⟩
        case measure=>simp[intOf]
       have HF:=UX (HXT.out rfl);go_wp2_with(first|(refine lN (.tmp 11) hbz rX ?_)|(refine sN (.tmp 4) (.tmp 65) (AE x y) b2z rX ?_;intro w8 hb8 k8 d8)|fail);refine rO rX hb8 ?_;refine⟨AE x y,rfl,?_,Uw (HB24.out.2.2.trans HGZ.out) k8 (fun i hi e=>by omega)⟩;rw[HF.out];exact AN.mk_ (e:=Ay x y) (BE.nil _ _ _) (BE.nil _ _ _) (Ca.nil _ _)
     have HF:=UX (HXF.out rfl);clear hg r0 r0c;go_wp2_with(first|(refine lN (.tmp 2) b4 rX ?_)|(refine sN (.tmp 4) (.tmp 67) (A8 e (.slice Am nm km) (.slice Ab nb kb) (.slice (some ⟨b,o,none⟩) 2 ks)) b2 rX ?_;intro w8 hb8 k8 d8)|fail);refine rO rX hb8 ?_;refine⟨(A8 e (.slice Am nm km) (.slice Ab nb kb) (.slice (some ⟨b,o,none⟩) 2 ks)),rfl,?_,Uw (HB24.out.2.2.trans HGX.out) k8 (fun i hi e=>by omega)⟩;rw[HF.out];exact HFIN.out wr w8 _ _ k8 (HRES.out wr HGX.out)
   have t1:(e.kind==3)=false:=by simpa using h3
   have hfin:AS e=e.withKids (e.kids.map AS):=by rw[CK];exact FI fun h=>absurd (by rw[Cg]at h;exact h) h3
   have HF:=UX hfin;clear hE4 hTQ4 hMY4 hfin h3 hB0 hsz4 hgw k4 hsz hw1 hM2;go_wp2_with(first|(refine lN (.tmp 2) hb4 rX ?_)|(refine sN (.tmp 4) (.tmp 67) (A8 e (.slice Am nm km) (.slice Ab nb kb) (.slice As ns ks)) hb2 rX ?_;intro w8 hb8 k8 d8)|fail);refine rO rX hb8 ?_;refine⟨(A8 e (.slice Am nm km) (.slice Ab nb kb) (.slice As ns ks)),rfl,?_,Uw hgw4 k8 (fun i hi e=>by omega)⟩;rw[HF.out];exact HFIN.out w4 w8 _ _ k8 (HRES.out w4 (Uv _))
end Go.Proofs.YtkclnhpofkaclaaGreatDoor
