/- What the card of the law stands on: KeyE, DVal, DeclA, Cmp, Walk, EnvA, EnvPl, EnvB. -/
import Derived.Test.YthpflelgbadkcaaGreatDoorRewriteTypesP46
import Derived.Test.YthpflelgbadkcaaGreatDoorRewriteTypesP01
import Derived.Test.YthpflelgbadkcaaGreatDoorRewriteTypesP08
import Derived.Test.YthpflelgbadkcaaGreatDoorRewriteTypesP07
import Derived.Test.YthpflelgbadkcaaGreatDoorRewriteTypesP04
import Derived.Deep.DeepCutAuto
import Derived.Deep.QuietTactic
import Derived.Sort.Grow
import Derived.BigQuiet
set_option maxRecDepth 100000
set_option maxHeartbeats 12800000
set_option linter.unusedVariables false
set_option linter.unusedSimpArgs false
namespace Go.Proofs.YthpflelgbadkcaaGreatDoor
open Go.RowKit Pl
def BP (k:Nat):ByteArray:=if k=0 then⟨#[99,112,117]⟩else⟨#[109,101,109]⟩
theorem M4 (k:Nat):(BP k).size≤16:=by unfold BP;split<;>decide
theorem LT {w:World} {g:Nat} {t:TypeId} {nm:ByteArray} {v:Value} {x:Fin 10→Int} (hb:AR w g t (AQ nm v x).toArray) (nm':ByteArray) (A:Option Addr) (n c:Nat) (x':Fin 10→Int):
  ∃w',(Instr.storeAt 54 (.pointer (some ⟨g,0,none⟩)) (.agg (AQ nm' (.slice A n c) x').toArray)).run Tryz.prog w= .ok () w'∧AR w' g t (AQ nm' (.slice A n c) x').toArray∧AA (fun i=>i=g) w w':=
 ⟨_,run_storeAt_mid w g 0 54 _ hb.there12 FA (by simp[AQ,Value.oneCell']),hb.put12 nm' _ x',IU w g _ rfl⟩
def NV:Fin 10→Int:=fun i=>if i.val=0 then 1 else 0
theorem O2.slc {w:World} {v:Value} {ls:List (ByteArray×ByteArray)} (h:O2 w v ls):∃A c,v= .slice A ls.length c:=by
 obtain⟨_,A,c,hv,_⟩:=h;exact⟨A,c,hv⟩
theorem O2.keepD {w w':World} {v:Value} {ls:List (ByteArray×ByteArray)} {g:Nat} {t:TypeId} {nm:ByteArray} {A:Option Addr} {n c:Nat} {x:Fin 10→Int} (h:O2 w v ls) (hb:AR w g t (AQ nm (.slice A n c) x).toArray) (k:AA (fun i=>i=g) w w'):O2 w' v ls:=by
 obtain⟨h0,A',c',hv,hx⟩:=h;refine⟨h0,A',c',hv,fun hn=>?_⟩;obtain⟨b,e,hlt,hcell⟩:=hx hn;have hne:b≠g:=by
  rintro rfl;have h1:=(hcell 0 _ (VB hn)).2;have h2:=hb.cell 1;rw[show(0*2+1:Nat)=1 from rfl,h2]at h1;cases h1
 have hbk:=k.block b hlt hne;exact⟨b,e,VA hlt k.size,fun j p hp=>⟨(World.cell?_of_block (a:=⟨b,j*2,none⟩) hbk).trans (hcell j p hp).1,(World.cell?_of_block (a:=⟨b,j*2+1,none⟩) hbk).trans (hcell j p hp).2⟩⟩
structure DS (w wx:World) (g7:Nat) (nm:ByteArray) (AL:Option Addr) (nL cL:Nat) (ls:List (ByteArray×ByteArray)) (x:Fin 10→Int):Prop where
 box:AR wx g7 54 (AQ nm (.slice AL nL cL) x).toArray
 lab:O2 wx (.slice AL nL cL) ls
 out:AR wx w.heap.size 54 (AQ ⟨#[]⟩ (.slice none 0 0) (fun _=>0)).toArray
 grew:A4 w wx
 lt:w.heap.size<g7
theorem DS.step {w wx wy:World} {g7:Nat} {nm:ByteArray} {AL:Option Addr} {nL cL:Nat} {ls:List (ByteArray×ByteArray)} {x x':Fin 10→Int} (h:DS w wx g7 nm AL nL cL ls x) (hb:AR wy g7 54 (AQ nm (.slice AL nL cL) x').toArray) (k:AA (fun i=>i=g7) wx wy):DS w wy g7 nm AL nL cL ls x':=
 ⟨hb,h.lab.keepD h.box k,h.out.keep k (fun e=>by have:=h.lt;omega),VV h.grew k (fun i hi e=>by have:=h.lt;omega),h.lt⟩
theorem Iv {w:World} {g:Nat} {t:TypeId} {nm:ByteArray} {v:Value} {x:Fin 10→Int} {ops:Array Oper} {rest:List Oper} {o:Oper} {a:Act} {Q:Exit→Act→World→Prop} (xo yo:Operand) (k:Nat) (hk:k<10) (n:Int) (hgd:o.guard=none) (ho:o.op= .store 3 xo yo)
  (hx:a.eval xo= .pointer (some ⟨g,k+2,none⟩)) (hy:a.eval yo= .int .i64 n) (hb:AR w g t (AQ nm v x).toArray)
  (h:∀w',AR w' g t (AQ nm v (C2 x k n)).toArray→AA (fun i=>i=g) w w'→wpList Tryz.prog ops Q rest (a.put o.dst undef) w'):wpList Tryz.prog ops Q (o::rest) a w:=by
 have hu:∃u,(AQ nm v x).toArray[k+2]? =some u:=⟨(AQ nm v x)[k+2]'(by simp[AQ];omega),by simp⟩;obtain⟨u,hu⟩:=hu;have hc:=(hb.cell (k+2)).trans hu;have hf:=hb.frozen (k+2);have hk':AA (fun i=>i=g) w (w.setCell ⟨g,k+2,none⟩ (.int .i64 n)):=(VY (fun i=>i=g) w).setCell (p:=⟨g,k+2,none⟩) (.inl rfl) _;refine wpList_plain hgd fun K hK=>?_
 unfold Oper.wp execOp;simp only[ho,hx,hy];go_simp;exact hK _ _ (h _ (hb.put1d k hk n) hk')
def OA (k0 k1 k2 k5 k6 k7 k8:Nat):Fin 10→Int:=
 C2 (C2 (C2 (C2 (C2 (C2 (C2 NV 3 ((k0:Int)-9)) 4 ((k0:Int)-9+(k5:Int))) 5 ((k1:Int)-3)) 6 ((k1:Int)-3+(k6:Int))) 7 (k2:Int)) 8 ((k2:Int)+(k7:Int))) 9 (k8:Int)
def Ln (nm:ByteArray) (x:Fin 10→Int) (w:World) (e:Ending) (w':World):Prop:=
 ∃v ls,e= .returned (Iw nm v x)∧O2 w' v ls∧ls∈Lz∧A4 w w'
theorem R7 (v:Value) (l:List Int) (w:World) (h:Rd w w.heap.size v (l.map vi)) (hi:∀x∈l,BI x) (hl:l.length≤1000000000000000):
  Calls Tryz.prog 43 #[v] w (Ln (BP (Bf l 3 2)) (OA (Bf l 0 10) (Bf l 1 5) (Bf l 2 7) (Bf l 5 17) (Bf l 6 4) (Bf l 7 14) (Bf l 8 40)) w):=by
 have HPk:=V3 (fun(i m:Nat) (w':World) (g:A4 w w') (h1:i≤1000) (h2:0<m) (h3:m≤1000)=>M1 v l i m w' ((h.grew (V6 _) g).more g.size) hi hl h1 h2 h3);have HLT:=V3 (fun(i m:Nat) (h2:0<m)=>Db l i m h2);obtain⟨A,n,c,rfl, -, -⟩:=h.form;clear h hi;go_enter Tryz.func43,Tryz.ntmps43;go_upto_region 2 with fail;have hb2:AR ((w.alloc (.cells #[.string ⟨#[]⟩,.slice none 0 0,.int .i64 0,.int .i64 0,.int .i64 0,.int .i64 0,.int .i64 0,.int .i64 0,.int .i64 0,.int .i64 0,.int .i64 0,.int .i64 0] 54)).alloc (.cells #[.string ⟨#[99,112,117]⟩,.string ⟨#[109,101,109]⟩] 9)) w.heap.size 54 (AQ ⟨#[]⟩ (.slice none 0 0) (fun _=>0)).toArray:=(VW w 54 _).alloc _;have hbn:AR ((w.alloc (.cells #[.string ⟨#[]⟩,.slice none 0 0,.int .i64 0,.int .i64 0,.int .i64 0,.int .i64 0,.int .i64 0,.int .i64 0,.int .i64 0,.int .i64 0,.int .i64 0,.int .i64 0] 54)).alloc (.cells #[.string ⟨#[99,112,117]⟩,.string ⟨#[109,101,109]⟩] 9)) (w.heap.size+1) 9 #[.string ⟨#[99,112,117]⟩,.string ⟨#[109,101,109]⟩]:=by
  have:=VW (w.alloc (.cells #[.string ⟨#[]⟩,.slice none 0 0,.int .i64 0,.int .i64 0,.int .i64 0,.int .i64 0,.int .i64 0,.int .i64 0,.int .i64 0,.int .i64 0,.int .i64 0,.int .i64 0] 54)) 9 #[.string ⟨#[99,112,117]⟩,.string ⟨#[109,101,109]⟩];rw[World.size_alloc]at this;exact this
 have hG1:A4 w ((w.alloc (.cells #[.string ⟨#[]⟩,.slice none 0 0,.int .i64 0,.int .i64 0,.int .i64 0,.int .i64 0,.int .i64 0,.int .i64 0,.int .i64 0,.int .i64 0,.int .i64 0,.int .i64 0] 54)).alloc (.cells #[.string ⟨#[99,112,117]⟩,.string ⟨#[109,101,109]⟩] 9)):=((VU w).alloc _).alloc _;change Code.wp _ _ _ _ ((w.alloc (.cells #[.string ⟨#[]⟩,.slice none 0 0,.int .i64 0,.int .i64 0,.int .i64 0,.int .i64 0,.int .i64 0,.int .i64 0,.int .i64 0,.int .i64 0,.int .i64 0,.int .i64 0] 54)).alloc (.cells #[.string ⟨#[99,112,117]⟩,.string ⟨#[109,101,109]⟩] 9));generalize ((w.alloc (.cells #[.string ⟨#[]⟩,.slice none 0 0,.int .i64 0,.int .i64 0,.int .i64 0,.int .i64 0,.int .i64 0,.int .i64 0,.int .i64 0,.int .i64 0,.int .i64 0,.int .i64 0] 54)).alloc (.cells #[.string ⟨#[99,112,117]⟩,.string ⟨#[109,101,109]⟩] 9))=w1 at*;have hlt2:=hb2.lt;have hltn:=hbn.lt;have hP0:∀w',A4 w w'→Calls Tryz.prog 23 #[.slice A n c,.int .i64 0,.int .i64 10] w' fun e w''=>e= .returned (.int .i64 (Bf l 0 10:Nat))∧w''=w':=fun w' g=>HPk.out 0 10 w' g (by omega) (by omega) (by omega)
 have HP0:=V3 hP0;clear hP0;have hk0:=HLT.out 0 10 (by omega);generalize Bf l 0 10=k0 at*;have hP1:∀w',A4 w w'→Calls Tryz.prog 23 #[.slice A n c,.int .i64 1,.int .i64 5] w' fun e w''=>e= .returned (.int .i64 (Bf l 1 5:Nat))∧w''=w':=fun w' g=>HPk.out 1 5 w' g (by omega) (by omega) (by omega)
 have HP1:=V3 hP1;clear hP1;have hk1:=HLT.out 1 5 (by omega);generalize Bf l 1 5=k1 at*;have hP2:∀w',A4 w w'→Calls Tryz.prog 23 #[.slice A n c,.int .i64 2,.int .i64 7] w' fun e w''=>e= .returned (.int .i64 (Bf l 2 7:Nat))∧w''=w':=fun w' g=>HPk.out 2 7 w' g (by omega) (by omega) (by omega)
 have HP2:=V3 hP2;clear hP2;have hk2:=HLT.out 2 7 (by omega);generalize Bf l 2 7=k2 at*;have hP3:∀w',A4 w w'→Calls Tryz.prog 23 #[.slice A n c,.int .i64 3,.int .i64 2] w' fun e w''=>e= .returned (.int .i64 (Bf l 3 2:Nat))∧w''=w':=fun w' g=>HPk.out 3 2 w' g (by omega) (by omega) (by omega)
 have HP3:=V3 hP3;clear hP3;have hk3:=HLT.out 3 2 (by omega);generalize Bf l 3 2=k3 at*;have hP4:∀w',A4 w w'→Calls Tryz.prog 23 #[.slice A n c,.int .i64 4,.int .i64 4] w' fun e w''=>e= .returned (.int .i64 (Bf l 4 4:Nat))∧w''=w':=fun w' g=>HPk.out 4 4 w' g (by omega) (by omega) (by omega)
 have HP4:=V3 hP4;clear hP4;have hk4:=HLT.out 4 4 (by omega);generalize Bf l 4 4=k4 at*;have hP5:∀w',A4 w w'→Calls Tryz.prog 23 #[.slice A n c,.int .i64 5,.int .i64 17] w' fun e w''=>e= .returned (.int .i64 (Bf l 5 17:Nat))∧w''=w':=fun w' g=>HPk.out 5 17 w' g (by omega) (by omega) (by omega)
 have HP5:=V3 hP5;clear hP5;have hk5:=HLT.out 5 17 (by omega);generalize Bf l 5 17=k5 at*;have hP6:∀w',A4 w w'→Calls Tryz.prog 23 #[.slice A n c,.int .i64 6,.int .i64 4] w' fun e w''=>e= .returned (.int .i64 (Bf l 6 4:Nat))∧w''=w':=fun w' g=>HPk.out 6 4 w' g (by omega) (by omega) (by omega)
 have HP6:=V3 hP6;clear hP6;have hk6:=HLT.out 6 4 (by omega);generalize Bf l 6 4=k6 at*;have hP7:∀w',A4 w w'→Calls Tryz.prog 23 #[.slice A n c,.int .i64 7,.int .i64 14] w' fun e w''=>e= .returned (.int .i64 (Bf l 7 14:Nat))∧w''=w':=fun w' g=>HPk.out 7 14 w' g (by omega) (by omega) (by omega)
 have HP7:=V3 hP7;clear hP7;have hk7:=HLT.out 7 14 (by omega);generalize Bf l 7 14=k7 at*;have hP8:∀w',A4 w w'→Calls Tryz.prog 23 #[.slice A n c,.int .i64 8,.int .i64 40] w' fun e w''=>e= .returned (.int .i64 (Bf l 8 40:Nat))∧w''=w':=fun w' g=>HPk.out 8 40 w' g (by omega) (by omega) (by omega)
 have HP8:=V3 hP8;clear hP8;have hk8:=HLT.out 8 40 (by omega);generalize Bf l 8 40=k8 at*;clear HPk HLT;have hcn:∀w',A4 w1 w'→w'.cell? ⟨w.heap.size+1,k3,none⟩=some (.string (BP k3)):=fun w' g=>by
  have hb':=hbn.grew g;have:k3=0∨k3=1:=by omega
  rcases this with rfl|rfl
  ·exact hb'.cell 0
  exact hb'.cell 1
 have HCN:=V3 hcn;have hnz:=M4 k3;generalize BP k3=nm at*;have HLb:=V3 (fun w'=>NE (k4:Int) w' (by constructor<;>omega));have i3:(k3:Int)<2:=by omega
 have i3n:k3<2:=hk3;go_wp2_with fail;refine(HP0.out w1 hG1).mono ?_;rintro e w' ⟨rfl,hw'⟩;rw[hw'];clear hw' w' HP0;go_wp2_with fail;refine(HP1.out w1 hG1).mono ?_;rintro e w' ⟨rfl,hw'⟩;rw[hw'];clear hw' w' HP1;go_wp2_with fail;refine(HP2.out w1 hG1).mono ?_;rintro e w' ⟨rfl,hw'⟩;rw[hw'];clear hw' w' HP2;have gz:A4 w1 w1.drew:=VX (VU w1);have cz:=hcn w1.drew gz;have gzw:A4 w w1.drew:=hG1.trans gz;have gza:A4 w1 (w1.alloc (.cells #[.string ⟨#[]⟩,.slice none 0 0,.int .i64 0,.int .i64 0,.int .i64 0,.int .i64 0,.int .i64 0,.int .i64 0,.int .i64 0,.int .i64 0,.int .i64 0,.int .i64 0] 54)).drew:=VX ((VU w1).alloc _);have gzaw:A4 w (w1.alloc (.cells #[.string ⟨#[]⟩,.slice none 0 0,.int .i64 0,.int .i64 0,.int .i64 0,.int .i64 0,.int .i64 0,.int .i64 0,.int .i64 0,.int .i64 0,.int .i64 0,.int .i64 0] 54)).drew:=hG1.trans gza;have cza:=hcn _ gza;have HB7:=V3 (show AR (w1.alloc (.cells #[.string ⟨#[]⟩,.slice none 0 0,.int .i64 0,.int .i64 0,.int .i64 0,.int .i64 0,.int .i64 0,.int .i64 0,.int .i64 0,.int .i64 0,.int .i64 0,.int .i64 0] 54)).drew w1.heap.size 54 (AQ ⟨#[]⟩ (.slice none 0 0) (fun _=>0)).toArray from AR.drew (VW w1 54 _));have HG1:=V3 hG1;have HB2:=V3 hb2;clear hcn hbn hb2 hG1;go_upto_region 5 with fail;go_cut [7] (fun s7 wx=>∃g7 AL nL cL ls,s7= .pointer (some ⟨g7,0,none⟩)∧ls∈Lz∧DS w wx g7 nm AL nL cL ls NV)
 case first=>
  go_region_held3 (fun w'=>w'.cell? ⟨w.heap.size+1,k3,none⟩=some (.string nm)) (first|assumption|exact HCN.out _ (by assumption)|exact HCN.out _ (VX (VU _))|exact HCN.out _ gza|exact HCN.out _ (AA.alloc (by assumption) _)) (first|(go_at_call 23;(with_reducible refine(HP3.out _ (by assumption)).mono ?_);rintro e wq ⟨rfl,rfl⟩)|(go_at_call 23;(with_reducible refine(HP4.out _ (by assumption)).mono ?_);rintro e wq ⟨rfl,rfl⟩)|(go_at_call 44;(with_reducible refine(HLb.out w1.drew).mono ?_);rintro e wL ⟨vl,ls,rfl,hL,hL2,gL⟩;obtain⟨AL,cL,rfl⟩:=hL.slc;have gL1:=gz.trans gL;have gLw:=gzw.trans gL;have cL':=HCN.out wL gL1;have hb7:=VW wL 54 (AQ ⟨#[]⟩ (.slice none 0 0) (fun _=>0)).toArray;have gg7:=gLw.alloc (.cells (AQ ⟨#[]⟩ (.slice none 0 0) (fun _=>0)).toArray 54);have hL7:=hL.grew ((VU wL).alloc (.cells (AQ ⟨#[]⟩ (.slice none 0 0) (fun _=>0)).toArray 54));have hlt7:w.heap.size<wL.heap.size:=VA hlt2 gL1.size;have h2L:=(HB2.out.grew gL1).alloc (.cells (AQ ⟨#[]⟩ (.slice none 0 0) (fun _=>0)).toArray 54);have cP:=HCN.out _ (gL1.alloc (.cells (AQ ⟨#[]⟩ (.slice none 0 0) (fun _=>0)).toArray 54));have neP:w.heap.size+1≠wL.heap.size:=(by have:=gL1.size;omega);have ltP:w.heap.size+1<(wL.alloc (.cells (AQ ⟨#[]⟩ (.slice none 0 0) (fun _=>0)).toArray 54)).heap.size:=(by have:=gL1.size;rw[World.size_alloc];omega);have HD:=V3 (show DS w (wL.alloc (.cells (AQ nm (.slice AL ls.length cL) NV).toArray 54)) wL.heap.size nm AL ls.length cL ls NV from⟨VW wL _ _,hL.grew ((VU wL).alloc _),(HB2.out.grew gL1).alloc _,gLw.alloc _,hlt7⟩);clear hb7 gg7 hL7 h2L hL gLw hlt7)|(go_at_call 44;(with_reducible refine(HLb.out (w1.alloc (.cells #[.string ⟨#[]⟩,.slice none 0 0,.int .i64 0,.int .i64 0,.int .i64 0,.int .i64 0,.int .i64 0,.int .i64 0,.int .i64 0,.int .i64 0,.int .i64 0,.int .i64 0] 54)).drew).mono ?_);rintro e wL ⟨vl,ls,rfl,hL,hL2,gL⟩;obtain⟨AL,cL,rfl⟩:=hL.slc;have gL1:=gza.trans gL;have gg7:=gzaw.trans gL;have cL':=HCN.out wL gL1;have hb7:=(HB7.out).grew gL;have hL7:=hL;have hlt7:w.heap.size<w1.heap.size:=hlt2;have h2L:=HB2.out.grew gL1;have cP:=cL';have neP:w.heap.size+1≠w1.heap.size:=(by omega);have ltP:w.heap.size+1<wL.heap.size:=(by have:=gL1.size;omega);obtain⟨wS,hrS,hbS,hkS⟩:=LT hb7 nm AL ls.length cL NV;have hRun:(Instr.storeAt 54 (.pointer (some ⟨w1.heap.size,0,none⟩)) (.agg #[.string nm,.slice AL ls.length cL,.int .i64 1,.int .i64 0,.int .i64 0,.int .i64 0,.int .i64 0,.int .i64 0,.int .i64 0,.int .i64 0,.int .i64 0,.int .i64 0])).run Tryz.prog wL= .ok () wS:=hrS;clear hrS;simp[go_sem]at hRun;have cS:=(World.cell?_of_block (a:=⟨w.heap.size+1,k3,none⟩) (hkS.block _ ltP (fun e=>neP e))).trans cP;have HD:=V3 (show DS w wS w1.heap.size nm AL ls.length cL ls NV from⟨hbS,hL7.keepD hb7 hkS,h2L.keep hkS (fun e=>by omega),VV gg7 hkS (fun i hi e=>by omega),hlt7⟩);clear hbS hkS hL7 gg7 hlt7 h2L hL hb7))
  all_goals(go_wp2_with fail;go_meet;exact⟨_,AL,ls.length,cL,ls,rfl,hL2,HD.out⟩)
 case rest=>
  obtain⟨g7,AL,nL,cL,ls,rfl,hl2,D0⟩:=hcut;clear HCN HLb gz cz gzw gza gzaw cza HB7 HG1 HB2 HP3 HP4 hlt2 hltn;go_wp2_with(refine Iv (.tmp 28) (.tmp 27) 3 (by decide) ((k0:Int)-9) rfl rfl rfl rfl D0.box ?_;intro wD1 hbD1 hkD1;have D1:=D0.step hbD1 hkD1);refine(HP5.out _ D1.grew).mono ?_;rintro e w' ⟨rfl,hw'⟩;rw[hw'];clear hw' w' HP5;go_wp2_with(first|(refine Iv (.tmp 33) (.tmp 32) 4 (by decide) ((k0:Int)-9+(k5:Int)) rfl rfl rfl rfl D1.box ?_;intro wD2 hbD2 hkD2;have D2:=D1.step hbD2 hkD2)|(refine Iv (.tmp 35) (.tmp 34) 5 (by decide) ((k1:Int)-3) rfl rfl rfl rfl D2.box ?_;intro wD3 hbD3 hkD3;have D3:=D2.step hbD3 hkD3));refine(HP6.out _ D3.grew).mono ?_;rintro e w' ⟨rfl,hw'⟩;rw[hw'];clear hw' w' HP6;go_wp2_with(first|(refine Iv (.tmp 40) (.tmp 39) 6 (by decide) ((k1:Int)-3+(k6:Int)) rfl rfl rfl rfl D3.box ?_;intro wD4 hbD4 hkD4;have D4:=D3.step hbD4 hkD4)|(refine Iv (.tmp 42) (.tmp 41) 7 (by decide) ((k2:Int)) rfl rfl rfl rfl D4.box ?_;intro wD5 hbD5 hkD5;have D5:=D4.step hbD5 hkD5));refine(HP7.out _ D5.grew).mono ?_;rintro e w' ⟨rfl,hw'⟩;rw[hw'];clear hw' w' HP7;go_wp2_with(refine Iv (.tmp 47) (.tmp 46) 8 (by decide) ((k2:Int)+(k7:Int)) rfl rfl rfl rfl D5.box ?_;intro wD6 hbD6 hkD6;have D6:=D5.step hbD6 hkD6);refine(HP8.out _ D6.grew).mono ?_;rintro e w' ⟨rfl,hw'⟩;rw[hw'];clear hw' w' HP8;go_wp2_with(first|(refine Iv (.tmp 50) (.tmp 49) 9 (by decide) ((k8:Int)) rfl rfl rfl rfl D6.box ?_;intro wD7 hbD7 hkD7;have D7:=D6.step hbD7 hkD7)|(refine UN (.tmp 7) rfl rfl rfl D7.box ?_)|(refine U9 (.tmp 2) (.tmp 51) nm AL nL cL _ rfl rfl rfl rfl D7.out ?_;intro wz hbz hkz));refine bodyPost_ret (v:=Iw nm (.slice AL nL cL) (OA k0 k1 k2 k5 k6 k7 k8)) (Iy rfl rfl hbz) rfl ⟨_,ls,rfl,D7.lab.keepD D7.out hkz,hl2,VV D7.grew hkz (fun i hi e=>by omega)⟩
structure US (x:Fin 10→Int):Prop where
 u0: -3≤x 0∧x 0≤3
 u1: -3≤x 1∧x 1≤3
 u2: -3≤x 2∧x 2≤3
 lo: -1073741824≤x 3
 hi:x 3≤x 4
 hi2:x 4≤1073741824
 SL: -1048576≤x 5
 up:x 5≤x 6
 up2:x 6≤1048576
 first:0≤x 7
 last:x 7≤x 8
 last2:x 8≤1048576
 span:x 8-x 7<4096
 bud:0≤x 9∧x 9≤1073741824
def FQ (x:Fin 10→Int):Nat:=(x 8-x 7+1).toNat
structure NQ (x:Fin 10→Int) (c:Clm):Prop where
 first:x 7≤c.1
 upto:c.1≤c.2.1
 last:c.2.1≤x 8
 lo: -1099511627776≤c.2.2.1
 hi:c.2.2.1≤c.2.2.2
 hi2:c.2.2.2≤1099511627776
structure UW (w w':World):Prop where
 grew:A4 w w'
 drawn:w.drawn≤w'.drawn
section
variable {a w w':World}
end
theorem NC {P:Program} {f:FuncId} {args:Array Value} {w:World} {n:Nat} {v:Value}
  (h:Calls P f args (w.drewN n) fun e w'=>e= .returned v∧w'=w.drewN n):Calls P f args (w.drewN n) fun e w''=>e= .returned v∧∃m,w''=w.drewN m:=
 h.mono fun _ _ ⟨he,hm⟩=>⟨he,n,hm⟩
structure Ie (x:Fin 10→Int):Prop where
 lo: -9≤x 3
 lo2:x 3≤0
 hi:x 3≤x 4
 hi2:x 4≤16
 SL: -3≤x 5
 down2:x 5≤1
 up:x 5≤x 6
 up2:x 6≤4
 first:0≤x 7
 first2:x 7≤6
 last:x 7≤x 8
 span:x 8-x 7≤13
theorem NM (k0 k1 k2 k5 k6 k7 k8:Nat) (h0:k0<10) (h1:k1<5) (h2:k2<7) (h5:k5<17) (h6:k6<4) (h7:k7<14):Ie (OA k0 k1 k2 k5 k6 k7 k8):=by
 constructor<;>simp[OA,C2,NV]<;>omega
def JO (xs:List Int):Prop:=∀j,j<xs.length→ -(20+8*(j:Int))≤xs.getD j 0∧xs.getD j 0≤20+8*(j:Int)
theorem JO.snoc {xs:List Int} (h:JO xs) {y:Int} (h1: -(20+8*(xs.length:Int))≤y) (h2:y≤20+8*(xs.length:Int)):JO (xs++[y]):=fun j hj=>by
 rcases Nat.lt_or_ge j xs.length with h3|h3
 ·rw[List.getD_eq_getElem?_getD,List.getElem?_append_left h3,←List.getD_eq_getElem?_getD];exact h j h3
 obtain rfl:j=xs.length:=by simp at hj;omega
 simp[List.getD_eq_getElem?_getD];exact⟨by omega,by omega⟩
theorem JO.set_ {xs:List Int} (h:JO xs) {i:Nat} {y:Int} (h1: -(20+8*(i:Int))≤y) (h2:y≤20+8*(i:Int)):JO (xs.set i y):=fun j hj=>by
 rw[List.length_set]at hj;by_cases e:i=j
 ·subst e;rw[List.getD_eq_getElem?_getD,List.getElem?_set_self hj];exact⟨h1,h2⟩
 rw[List.getD_eq_getElem?_getD,List.getElem?_set_ne e,←List.getD_eq_getElem?_getD];exact h j hj
def JE (N:Nat) (w:World) (e:Ending) (w':World):Prop:=∃A c xs,e= .returned (.slice A N c)∧B9 w' w.heap.size 3 (.slice A N c) (xs.map vi)∧xs.length=N∧JO xs∧A4 w w'
theorem LX (v:Value) (l:List Int) (i m:Int) (w:World) (h:Rd w w.heap.size v (l.map vi)) (hi:∀x∈l,BI x) (hl:l.length≤1000000000000000) (h0:0≤i) (h1:i≤1000) (h2:0<m) (h3:m≤1000):
  Calls Tryz.prog 23 #[v,.int .i64 i,.int .i64 m] w fun e w'=>e= .returned (.int .i64 (Bf l i.toNat m.toNat:Nat))∧w'=w:=by
 have:=M1 v l i.toNat m.toNat w h hi hl (by omega) (by omega) (by omega);rwa[Int.toNat_of_nonneg h0,Int.toNat_of_nonneg (by omega)]at this
theorem Ng (l:List Int) (i m:Int) (h:0<m):((Bf l i.toNat m.toNat:Nat):Int)<m:=by
 have:=Db l i.toNat m.toNat (by omega);omega
theorem Iz {w:World} {g:Nat} {nm:ByteArray} {v:Value} {x:Fin 10→Int} (h:AR w g 54 (AQ nm v x).toArray):w.cell? ⟨g,5,none⟩=some (.int .i64 (x 3))∧w.cell? ⟨g,6,none⟩=some (.int .i64 (x 4))∧w.cell? ⟨g,7,none⟩=some (.int .i64 (x 5))∧w.cell? ⟨g,8,none⟩=some (.int .i64 (x 6))∧w.cell? ⟨g,9,none⟩=some (.int .i64 (x 7))∧w.cell? ⟨g,10,none⟩=some (.int .i64 (x 8)):=
 ⟨h.cell 5,h.cell 6,h.cell 7,h.cell 8,h.cell 9,h.cell 10⟩
theorem RL (nm:ByteArray) (A:Option Addr) (n c:Nat) (x:Fin 10→Int) (v:Value) (l:List Int) (w:World) (hx:Ie x) (h:Rd w w.heap.size v (l.map vi)) (hi:∀y∈l,BI y) (hl:l.length≤1000000000000000):
  Calls Tryz.prog 77 #[Iw nm (.slice A n c) x,v] w (JE (FQ x) w):=by
 have HPk:=V3 (fun(i m:Int) (w':World) (g:A4 w w')=>LX v l i m w' ((h.grew (V6 _) g).more g.size) hi hl);have HPL:=V3 (fun(i m:Int)=>Ng l i m);have HSp:=V3 (show FQ x=(x 8-x 7+1).toNat from rfl);obtain⟨B,p,q,rfl, -, -⟩:=h.form;obtain⟨h3,h3',h4,h4',h5,h5',h6,h6',h7,h7',h8,h8'⟩:=hx;have hbd:AR (w.alloc (.cells (AQ nm (.slice A n c) x).toArray 54)) w.heap.size 54 (AQ nm (.slice A n c) x).toArray:=VW _ _ _;have HBd:=V3 hbd;have hG0:=(VU w).alloc (.cells (AQ nm (.slice A n c) x).toArray 54);clear h hi hbd;rw[Dm];go_enter Tryz.func77,Tryz.ntmps77;go_upto_region 1 with fail;generalize w.alloc (.cells (AQ nm (.slice A n c) x).toArray 54)=w1 at*;have HG0:=V3 hG0;have HP0:=V3 (fun w' (g:A4 w w')=>HPk.out 0 (x 4-x 3+1) w' g (by omega) (by omega) (by omega) (by omega));have hk0:=HPL.out 0 (x 4-x 3+1) (by omega);generalize Bf l (0:Int).toNat (x 4-x 3+1).toNat=k0 at*;have s0:IntKind.i64.wrap (x 4-x 3)=x 4-x 3:=IntWalk.i64_in _ (by omega);have s1:IntKind.i64.wrap (x 4-x 3+1)=x 4-x 3+1:=IntWalk.i64_in _ (by omega);have s2:IntKind.i64.wrap (x 3+(k0:Int))=x 3+(k0:Int):=IntWalk.i64_in _ (by omega);obtain⟨c3,c4,c5,c6,c7,c8⟩:=Iz HBd.out;clear hG0;go_quiet ((go_at_call 23;exact NC (HP0.out _ (Va HG0.out _))));have hG1:A4 w (w1.drewN nq):=Va HG0.out nq;have hgz:A4 w1 (w1.drewN nq):=Va (VU w1) nq;generalize w1.drewN nq=w2 at*;clear c3 c4 c5 c6 c7 c8 s0 s1 s2 HP0;have HBd2:=V3 (HBd.out.grew hgz);obtain⟨y0,hy0⟩:∃y0,y0=x 3+(k0:Int):=⟨_,rfl⟩;rw[←hy0];have hM2:B9 (w2.alloc (.cells #[.int .i64 y0] 3)) w.heap.size 3 (.slice (some ⟨w2.heap.size,0,none⟩) 1 1) ([y0].map vi):=
  B9.mk' (cur:=#[.int .i64 y0]) hG1.size (VW w2 3 _) (V6 _) (by unfold maxLen;simp) rfl rfl
 have HM2:=V3 hM2;have HG2:=V3 (hG1.alloc (.cells #[.int .i64 y0] 3));have HZ2:=V3 (HBd2.out.alloc (.cells #[.int .i64 y0] 3));have y1: -20≤y0:=by omega
 have y2:y0≤20:=by omega
 have hsl:JO [y0]:=fun j hj=>by
  obtain rfl:j=0:=by simp at hj;omega
  simp;omega
 have HSl:=V3 hsl;clear hy0 hM2 hG1 hgz hsl HBd HBd2;go_upto_region 3 with fail;generalize hg2:w2.heap.size=g2 at*;clear hg2;generalize w2.alloc (.cells #[.int .i64 y0] 3)=w3 at*;obtain⟨c3,c4,c5,c6,c7,c8⟩:=Iz HZ2.out;go_wp2_with fail;go_loopw [5,6,7] (fun v o t wr=>∃(j:Nat) (y z:Int) (C:Option Addr) (q:Nat) (xs:List Int),z=x 7+(j:Int)∧z≤x 8∧t= .int .i64 z∧v= .int .i64 y∧o= .slice C (j+1) q∧B9 wr w.heap.size 3 (.slice C (j+1) q) (xs.map vi)∧xs.length=j+1∧JO xs∧ -(20+8*(j:Int))≤y∧y≤20+8*(j:Int)∧AR wr w.heap.size 54 (AQ nm (.slice A n c) x).toArray∧A4 w wr) (fun _ _ t _=>(x 8-intOf t).toNat)
 case atStart=>exact⟨0,y0,x 7,_,1,[y0],by simp,h8,rfl,rfl,rfl,HM2.out,rfl,HSl.out,by simpa using y1,by simpa using y2,HZ2.out,HG2.out⟩
 case round=>
  clear HM2 HSl HG2 HZ2 c3 c4 c5 c6 c7 c8;obtain⟨j,y,z,C,q2,xs,hz,hz8,rfl,rfl,rfl,hM,hxl,hS,y1,y2,hZ,hG⟩:=hrel;obtain⟨c3,c4,c5,c6,c7,c8⟩:=Iz hZ;have HZ:=V3 hz;have HM:=V3 hM;have HXL:=V3 hxl;have HS:=V3 hS;have HG:=V3 hG;have HZr:=V3 hZ;have hj13:(j:Int)≤13:=by omega
  have z0:0≤z:=by omega
  have z1:z≤1000:=by omega
  by_cases hlt:z<x 8
  ·have tt:decide (z<x 8)=true:=by simpa using hlt
   have HP:=V3 (fun w' (g:A4 w w')=>HPk.out ((j:Int)+1) (x 6-x 5+1) w' g (by omega) (by omega) (by omega) (by omega));have hk:=HPL.out ((j:Int)+1) (x 6-x 5+1) (by omega);generalize Bf l ((j:Int)+1).toNat (x 6-x 5+1).toNat=k at*;have s0:IntKind.i64.wrap (x 6-x 5)=x 6-x 5:=IntWalk.i64_in _ (by omega);have s1:IntKind.i64.wrap (x 6-x 5+1)=x 6-x 5+1:=IntWalk.i64_in _ (by omega);have s2:IntKind.i64.wrap (y+x 5)=y+x 5:=IntWalk.i64_in _ (by omega);have s3:IntKind.i64.wrap (y+x 5+(k:Int))=y+x 5+(k:Int):=IntWalk.i64_in _ (by omega);have s4:IntKind.i64.wrap (z-x 7)=(j:Int):=by rw[IntWalk.i64_in _ (by omega)];omega
   have s5:IntKind.i64.wrap ((j:Int)+1)=(j:Int)+1:=IntWalk.i64_in _ (by omega);clear hz hM hxl hS hG hZ;go_wp2_with fail;go_quiet ((go_at_call 23;exact NC (HP.out _ (Va HG.out _))));have hMz:B9 (wr.drewN nq) w.heap.size 3 (.slice C (j+1) q2) (xs.map vi):=HM.out;have hGz:A4 w (wr.drewN nq):=Va HG.out nq;have hZz:AR (wr.drewN nq) w.heap.size 54 (AQ nm (.slice A n c) x).toArray:=HZr.out.drewN nq;generalize wr.drewN nq=w5 at*;obtain⟨y',hy'⟩:∃y',y+x 5+(k:Int)=y':=⟨_,rfl⟩;have y1': -(20+8*((j:Int)+1))≤y':=by omega
   have y2':y'≤20+8*((j:Int)+1):=by omega
   rw[hy'];clear hy' s0 s1 s2 s3 s4 s5 c3 c4 c5 c6 c7 c8 hk HP HM HG HZr;have hM1:=hMz.alloc (.cells #[.int .i64 y'] 3);have hG1:=hGz.alloc (.cells #[.int .i64 y'] 3);have hZ1:=hZz.alloc (.cells #[.int .i64 y'] 3);have hln:(xs.map vi).length<1099511627776:=by rw[List.length_map,HXL.out];omega
   go_wp2_with(at_builtin;refine Ii Gw rfl (.tmp 47) (.tmp 49) rfl rfl hM1 w5.heap.size 1 (.int .i64 y') rfl (V6 _) (by simp) (by simp) rfl hln (by have:=hG1.size;simpa using this) ?_;intro r6 cap6 w6 hM6 hk6 hr6 hbr6 hlr6;rw[List.length_map,HXL.out]at hM6 ⊢;have HG6:=V3 (A4.app hG1 hM1 hk6);have HZ6:=V3 (hZ1.keep hk6 (fun e=>hM1.ne_box e hZ1 (by decide) rfl));clear hk6 hM1 hG1 hZ1 hMz hGz hZz hr6 hbr6 hlr6);have HM6:=V3 (show B9 w6 w.heap.size 3 (.slice (some ⟨r6,0,none⟩) (j+1+1) cap6) ((xs++[y']).map vi)from by rw[List.map_append];exact hM6);have HS6:=V3 (HS.out.snoc (y:=y') (by rw[HXL.out];simpa using y1') (by rw[HXL.out];simpa using y2'));clear hM6 hln HS;go_roundw
   case rel=>exact⟨j+1,y',z+1,_,cap6,xs++[y'],by have:=HZ.out;omega,by omega,by first|rfl|go_num,rfl,rfl,HM6.out,by rw[VR,HXL.out];rfl,HS6.out,by simpa using y1',by simpa using y2',HZ6.out,HG6.out⟩
   case measure=>simp[intOf];omega
  have tt:decide (z<x 8)=false:=by simpa using hlt
  have hsp:FQ x=j+1:=by
   rw[HSp.out];have:=HZ.out;omega
  have HJ:=V3 hsp;clear hsp hz hM hxl hS hG hZ;go_wp2_with fail;go_ret;refine⟨C,q2,xs,?_,?_,?_,HS.out,HG.out⟩
  ·rw[HJ.out];rfl
  ·rw[HJ.out];exact HM.out
  rw[HJ.out];exact HXL.out
section
variable {P:Program} {w:World} {base:Nat} {e:TypeId} {xs:List Value} {g m c:Nat} {ops:Array Oper} {rest:List Oper} {o:Oper} {a:Act} {Q:Exit→Act→World→Prop}
theorem B9.cell_at (h:B9 w base e (.slice (some ⟨g,0,none⟩) m c) xs) {k:Nat} (hk:k<xs.length):w.cell? ⟨g,k,none⟩=some xs[k]∧w.frozen? ⟨g,k,none⟩=false:=by
 rcases h.form with⟨hv,_⟩|⟨g',cap,cur,hv,_,hbox,_,_,_,h4⟩
 ·cases hv
 injection hv with hv1 hv2 hv3;injection hv1 with hv1;injection hv1 with hv1;subst hv1;refine⟨?_,hbox.frozen k⟩;rw[hbox.cell,←Array.getElem?_toList,←VB hk,←h4,List.getElem?_take,VN hk]
theorem RE (x y:Operand) (k:Nat) (n:Int) (hgd:o.guard=none) (ho:o.op= .store 3 x y)
  (hx:a.eval x= .pointer (some ⟨g,k,none⟩)) (hy:a.eval y= .int .i64 n) (hM:B9 w base 3 (.slice (some ⟨g,0,none⟩) m c) xs) (hk:k<xs.length)
  (h:∀w',B9 w' base 3 (.slice (some ⟨g,0,none⟩) m c) (xs.set k (.int .i64 n))→AA (fun i=>i=g) w w'→wpList Tryz.prog ops Q rest (a.put o.dst undef) w'):wpList Tryz.prog ops Q (o::rest) a w:=by
 obtain⟨hc,hf⟩:=hM.cell_at hk;have hm:=hM.store (g:=g) rfl hk (.int .i64 n);have hk':AA (fun i=>i=g) w (w.setCell ⟨g,k,none⟩ (.int .i64 n)):=(VY (fun i=>i=g) w).setCell (p:=⟨g,k,none⟩) (.inl rfl) _;refine wpList_plain hgd fun K hK=>?_
 unfold Oper.wp execOp;simp only[ho,hx,hy];go_simp;exact hK _ _ (h _ hm hk')
end
end Go.Proofs.YthpflelgbadkcaaGreatDoor
