/- What the card of the law stands on: Inside, Around. -/
import Derived.Test.YthpflelgbadkcaaGreatDoorRewriteTypesP01
import Derived.Test.YthpflelgbadkcaaGreatDoorRewriteTypesP47
import Derived.Laws.Cover1
import Derived.StillTailTactics
import Derived.Test.YthpflelgbadkcaaGreatDoorRewriteTypesP08
set_option maxRecDepth 100000
set_option maxHeartbeats 12800000
set_option linter.unusedVariables false
set_option linter.unusedSimpArgs false
namespace Go.Proofs.YthpflelgbadkcaaGreatDoor
open Go.RowKit Pl
theorem B9.int_cell {w:World} {base g m c:Nat} {xs:List Int} (h:B9 w base 3 (.slice (some ⟨g,0,none⟩) m c) (xs.map vi)) {k:Nat} (hk:k<xs.length):w.cell? ⟨g,k,none⟩=some (.int .i64 (xs.getD k 0))∧w.frozen? ⟨g,k,none⟩=false:=by
 obtain⟨a,b⟩:=h.cell_at (k:=k) (by rw[List.length_map];exact hk);rw[List.getElem_map]at a;rw[List.getD_eq_getElem?_getD,VB hk];exact⟨a,b⟩
structure Sb (w wr:World) (g N q:Nat) (nm:ByteArray) (A:Option Addr) (n c:Nat) (x:Fin 10→Int) (xs:List Int):Prop where
 row:B9 wr w.heap.size 3 (.slice (some ⟨g,0,none⟩) N q) (xs.map vi)
 len:xs.length=N
 slow:JO xs
 box:AR wr w.heap.size 54 (AQ nm (.slice A n c) x).toArray
 grew:A4 w wr
theorem S1 (y V a4 a5 a6:Int) (h1:y+a5≤V) (h2:V≤y+a6) (h3: -3≤a5) (h4:a6≤4) (h5:a5≤a6):y-8≤(if(if y+a6<if a4<V then a4 else V then y+a6 else if a4<V then a4 else V)<y+a5 then y+a5 else if y+a6<if a4<V then a4 else V then y+a6 else if a4<V then a4 else V)∧(if(if y+a6<if a4<V then a4 else V then y+a6 else if a4<V then a4 else V)<y+a5 then y+a5 else if y+a6<if a4<V then a4 else V then y+a6 else if a4<V then a4 else V)≤y+8:=by
 repeat' split
 all_goals omega
theorem Nr (y a3 a5 a6:Int) (h3: -3≤a5) (h4:a6≤4) (h5:a5≤a6):y-8≤(if y+a5<(if y+a6<a3 then y+a6 else a3)then(if y+a6<a3 then y+a6 else a3)else y+a5)∧(if y+a5<(if y+a6<a3 then y+a6 else a3)then(if y+a6<a3 then y+a6 else a3)else y+a5)≤y+8:=by
 repeat' split
 all_goals omega
theorem Sb.more {w wr w':World} {g N q:Nat} {nm:ByteArray} {A:Option Addr} {n c:Nat} {x:Fin 10→Int} {xs:List Int} (h:Sb w wr g N q nm A n c x xs) (k:A4 wr w'):Sb w w' g N q nm A n c x xs:=
 ⟨h.row.grew k,h.len,h.slow,h.box.grew k,h.grew.trans k⟩
theorem Sb.st {w wr w':World} {g N q:Nat} {nm:ByteArray} {A:Option Addr} {n c:Nat} {x:Fin 10→Int} {xs:List Int} (h:Sb w wr g N q nm A n c x xs) {k:Nat} {y:Int} (hM:B9 w' w.heap.size 3 (.slice (some ⟨g,0,none⟩) N q) ((xs.map vi).set k (.int .i64 y))) (hK:AA (fun i=>i=g) wr w') (h1: -(20+8*(k:Int))≤y) (h2:y≤20+8*(k:Int)):
  Sb w w' g N q nm A n c x (xs.set k y):=
 ⟨by rw[List.map_set];exact hM,by rw[List.length_set,h.len],h.slow.set_ h1 h2,h.box.keep hK (fun e=>h.row.ne_box rfl h.box (by decide) e.symm),VV h.grew hK (fun i hi e=>by have:=(h.row.lt g rfl).1;omega)⟩
theorem Mu (nm:ByteArray) (A:Option Addr) (n c:Nat) (x:Fin 10→Int) (v:Value) (l:List Int) (w:World) (hx:Ie x) (h:Rd w w.heap.size v (l.map vi)) (hi:∀y∈l,BI y) (hl:l.length≤1000000000000000):
  Calls Tryz.prog 45 #[Iw nm (.slice A n c) x,v] w (JE (FQ x) w):=by
 have HPk:=V3 (fun(i m:Int) (w':World) (g:A4 w w')=>LX v l i m w' ((h.grew (V6 _) g).more g.size) hi hl);have HPL:=V3 (fun(i m:Int)=>Ng l i m);have HW:=V3 (fun w' (g:A4 w w')=>RL nm A n c x v l w' hx ((h.grew (V6 _) g).more g.size) hi hl);have hsp:1≤FQ x∧FQ x≤14:=by
  have:=hx.last;have:=hx.span;unfold FQ;omega
 obtain⟨hsp1,hsp2⟩:=hsp;obtain⟨B,p,q,rfl, -, -⟩:=h.form;obtain⟨h3,h3',h4,h4',h5,h5',h6,h6',h7,h7',h8,h8'⟩:=hx;have hbd:AR (w.alloc (.cells (AQ nm (.slice A n c) x).toArray 54)) w.heap.size 54 (AQ nm (.slice A n c) x).toArray:=VW _ _ _;have hG0:=(VU w).alloc (.cells (AQ nm (.slice A n c) x).toArray 54);clear h hi;rw[Dm];rw[Dm]at HW;go_enter Tryz.func45,Tryz.ntmps45;go_upto_region 1 with fail;generalize w.alloc (.cells (AQ nm (.slice A n c) x).toArray 54)=w1 at*;generalize hNN:FQ x=N at*;have HNN:=V3 hNN;clear hNN;go_wp2_with(refine BZ 54 Tryz.underlying54 rfl (.tmp 2) w.heap.size (AQ nm (.slice A n c) x) 54 FA rfl rfl rfl hbd ?_);refine(HW.out w1 hG0).mono ?_;rintro e w2 ⟨C,q2,xs,rfl,hM,hxl,hS,k2⟩;obtain⟨g,rfl⟩:∃g,C=some ⟨g,0,none⟩:=by
  rcases hM.form with⟨hh,h0⟩|⟨g,cap,cur,hv, -⟩
  ·have:xs.length=0:=by simpa using congrArg List.length h0
   omega
  injection hv with hv;exact⟨g,hv⟩
 have HI:=V3 (show Sb w w2 g N q2 nm A n c x xs from⟨hM.base_le hG0.size,hxl,hS,hbd.grew k2,hG0.trans k2⟩);clear hM hxl hS k2 hbd hG0 HW;go_wp2_with fail;go_loopw [6] (fun i wr=>∃(s:Nat) (xs:List Int),s+1≤N∧i= .int .i64 ((s:Int)+1)∧Sb w wr g N q2 nm A n c x xs) (fun i _=>N-(intOf i).toNat)
 case atStart=>exact⟨0,xs,hsp1,rfl,HI.out⟩
 case round=>
  clear HI;obtain⟨s,ys,hs,rfl,hI⟩:=hrel;by_cases hlt:s+1<N
  ·have tt:decide ((s:Int)+1<(N:Int))=true:=by simp;omega
   obtain⟨p1,p2⟩:=hI.slow s (by rw[hI.len];omega);obtain⟨q1,q1'⟩:=hI.row.int_cell (k:=s) (by rw[hI.len];omega);obtain⟨q3,q3'⟩:=hI.row.int_cell (k:=s+1) (by rw[hI.len];omega);obtain⟨c3,c4,c5,c6,c7,c8⟩:=Iz hI.box;have HP:=V3 (fun w' (g:A4 w w')=>HPk.out ((s:Int)+1) (x 6-x 5+1) w' g (by omega) (by omega) (by omega) (by omega));have hk:=HPL.out ((s:Int)+1) (x 6-x 5+1) (by omega);generalize Bf l ((s:Int)+1).toNat (x 6-x 5+1).toNat=k at*;obtain⟨y,hy⟩:∃y,ys.getD s 0=y:=⟨_,rfl⟩;rw[hy]at p1 p2 q1;have HY:=V3 hy;clear hy;generalize ys.getD (s+1) 0=y9 at*;have i1:(0:Int)≤(s:Int):=by omega
   have i2:(s:Int)<(N:Int):=by omega
   have i3:(0:Int)≤(s:Int)+1:=by omega
   have i4:(s:Int)+1<(N:Int):=by omega
   have i5:((s:Int)+1).toNat=s+1:=by omega
   have HW1:=V3 (show IntKind.i64.wrap ((s:Int)+1-1)=(s:Int)from by rw[IntWalk.i64_in _ (by omega)];omega);have HW2:=V3 (show IntKind.i64.wrap (s:Int)=(s:Int)from IntWalk.i64_in _ (by omega));have s0:IntKind.i64.wrap (x 6-x 5)=x 6-x 5:=IntWalk.i64_in _ (by omega);have s1:IntKind.i64.wrap (x 6-x 5+1)=x 6-x 5+1:=IntWalk.i64_in _ (by omega);have s2:IntKind.i64.wrap (y+x 5)=y+x 5:=IntWalk.i64_in _ (by omega);have s3:IntKind.i64.wrap (y+x 5+(k:Int))=y+x 5+(k:Int):=IntWalk.i64_in _ (by omega);have s4:IntKind.i64.wrap (y+x 6)=y+x 6:=IntWalk.i64_in _ (by omega);have HI:=V3 hI;clear hI;go_wp2_with fail;have w1:=HW1.out;have w2:=HW2.out;go_quiet ((go_at_call 23;exact NC (HP.out _ (Va HI.out.grew _))));clear w1 w2;have hz:A4 wr (wr.drewN nq):=Va (VU wr) nq;have hI5:=HI.out.more hz;generalize wr.drewN nq=w5 at*;clear q1 q1' q3 q3' c3 c4 c5 c6 c7 c8 HI hz HP;obtain⟨q1,q1'⟩:=hI5.row.int_cell (k:=s) (by rw[hI5.len];omega);obtain⟨q3,q3'⟩:=hI5.row.int_cell (k:=s+1) (by rw[hI5.len];omega);rw[HY.out]at q1;generalize ys.getD (s+1) 0=y8 at*;obtain⟨V,hV⟩:∃V,y+x 5+(k:Int)=V:=⟨_,rfl⟩;have v1: -1000≤V:=by omega
   have v2:V≤1000:=by omega
   have HV1:=V3 (show y+x 5≤V from by omega);have HV2:=V3 (show V≤y+x 6 from by omega);rw[hV];clear hV hk s0 s1 s3;have HS2:=V3 s2;have HS4:=V3 s4;clear s2 s4;have hle:(s:Int)≤100:=by omega
   have hbu: -(20+8*((s+1:Nat):Int))≤y-8:=by push_cast;omega
   have hbv:y+8≤20+8*((s+1:Nat):Int):=by push_cast;omega
   have HBU:=V3 hbu;have HBV:=V3 hbv;clear hbu hbv;obtain⟨c3,c4,c5,c6,c7,c8⟩:=Iz hI5.box;have o1:g≠w.heap.size:=hI5.row.ne_box rfl hI5.box (by decide);have o2:=o1.symm;have HI5:=V3 hI5;clear hI5;go_upto_region 6 with fail;have w1:=HW1.out;have w2:=HW2.out;have s2:=HS2.out;have s4:=HS4.out;refine wp_region_still_tail 24 (by kernel_rfl) (by kernel_rfl) ?_;simp only[List.take_succ_cons,List.take_zero,List.drop_succ_cons,List.drop_zero]
   repeat still_step
   refine wpStill_nil ?_;change wpList _ _ _ _ _ w5.drew;clear w1 w2 s2 s4;refine RE (.tmp 58) (.tmp 57) (s+1) (if(if y+x 6<if x 4<V then x 4 else V then y+x 6 else if x 4<V then x 4 else V)<y+x 5 then y+x 5 else if y+x 6<if x 4<V then x 4 else V then y+x 6 else if x 4<V then x 4 else V) rfl rfl rfl rfl (B9.drew HI5.out.row) (by rw[List.length_map,HI5.out.len];exact hlt) ?_;intro w6 hM6 hk6;obtain⟨Y,hY⟩:∃Y,(if(if y+x 6<if x 4<V then x 4 else V then y+x 6 else if x 4<V then x 4 else V)<y+x 5 then y+x 5 else if y+x 6<if x 4<V then x 4 else V then y+x 6 else if x 4<V then x 4 else V)=Y:=⟨_,rfl⟩;rw[hY]at hM6 ⊢;have hY1:y-8≤Y∧Y≤y+8:=by
    rw[←hY];exact S1 y V (x 4) (x 5) (x 6) HV1.out HV2.out h5 h6' h6
   obtain⟨hY1,hY2⟩:=hY1;clear hY;have hI6:=(HI5.out.more (VX (VU w5))).st hM6 hk6 (Int.le_trans HBU.out hY1) (Int.le_trans hY2 HBV.out);clear q1 q1' q3 q3' c3 c4 c5 c6 c7 c8 HI5 hM6 hk6;obtain⟨c3,c4,c5,c6,c7,c8⟩:=Iz hI6.box;obtain⟨q1,q1'⟩:=hI6.row.int_cell (k:=s) (by rw[hI6.len];omega);have he:(ys.set (s+1) Y).getD s 0=y:=by
    rw[List.getD_eq_getElem?_getD,List.getElem?_set_ne (by omega),←List.getD_eq_getElem?_getD,HY.out]
   rw[he]at q1;clear he;by_cases hv:V<x 3
   ·have tv:decide (V<x 3)=true:=by simpa using hv
    have HI6:=V3 hI6;clear hI6;go_upto_region 8 with fail;have w1:=HW1.out;have w2:=HW2.out;have s2:=HS2.out;have s4:=HS4.out;refine wp_region_still_tail 23 (by kernel_rfl) (by kernel_rfl) ?_;simp only[List.take_succ_cons,List.take_zero,List.drop_succ_cons,List.drop_zero]
    repeat still_step
    refine wpStill_nil ?_;change wpList _ _ _ _ _ w6.drew;clear w1 w2 s2 s4;go_wp2_with(refine RE (.tmp 85) (.tmp 84) (s+1) (if y+x 5<(if y+x 6<x 3 then y+x 6 else x 3)then(if y+x 6<x 3 then y+x 6 else x 3)else y+x 5) rfl rfl rfl rfl (B9.drew HI6.out.row) (by rw[List.length_map,HI6.out.len];exact hlt) ?_;intro w7 hM7 hk7;have HI7:=V3 ((HI6.out.more (VX (VU w6))).st hM7 hk7 (Int.le_trans HBU.out (Nr y (x 3) (x 5) (x 6) h5 h6' h6).1) (Int.le_trans (Nr y (x 3) (x 5) (x 6) h5 h6' h6).2 HBV.out));clear hM7 hk7 q1 q1' c3 c4 c5 c6 c7 c8 HI6);go_roundw
    case rel=>exact⟨s+1,_,by omega,by go_num,HI7.out⟩
    case measure=>simp[intOf];omega
   have tv:decide (V<x 3)=false:=by simpa using hv
   have HI6:=V3 hI6;clear hI6;go_wp2_with fail;go_roundw
   case rel=>exact⟨s+1,_,by omega,by go_num,HI6.out⟩
   case measure=>simp[intOf];omega
  have tt:decide ((s:Int)+1<(N:Int))=false:=by simp;omega
  have HI:=V3 hI;clear hI;go_wp2_with fail;go_ret;exact⟨_,q2,ys,rfl,HI.out.row,HI.out.len,HI.out.slow,HI.out.grew⟩
def L4 (x:Fin 10→Int) (cs:List Clm):Prop:=(∀c∈cs,NQ x c)∧(∀c∈cs,TO c)
theorem L4.nil (x:Fin 10→Int):L4 x []:=⟨by simp,by simp⟩
theorem L4.snoc {x:Fin 10→Int} {cs:List Clm} (h:L4 x cs) {d:Clm} (h1:NQ x d) (h2:TO d):L4 x (cs++[d]):=by
 refine⟨fun c hc=>?_,fun c hc=>?_⟩<;>rcases List.mem_append.1 hc with hc|hc
 ·exact h.1 c hc
 ·obtain rfl:=VF.1 hc;exact h1
 ·exact h.2 c hc
 obtain rfl:=VF.1 hc;exact h2
theorem T5 {x:Fin 10→Int} (hx:Ie x) {a b lo hi:Int} (h1:0≤a) (h2:a≤b) (h3:b≤x 8-x 7) (h4: -1000≤lo) (h5:lo≤hi) (h6:hi≤1000):NQ x (x 7+a,x 7+b,lo,hi)∧TO (x 7+a,x 7+b,lo,hi):=by
 have:=hx.first
 have:=hx.first2;have:=hx.span;constructor
 ·constructor<;>simp<;>omega
 unfold TO TC;simp;omega
def Lr (x:Fin 10→Int) (w:World) (e:Ending) (w':World):Prop:=
 ∃v cs,e= .returned v∧CG w' w.heap.size v cs∧L4 x cs∧cs.length≤5∧A4 w w'
theorem LI (M:Nat) (hM5:M≤5) (nm:ByteArray) (A:Option Addr) (n c:Nat) (x:Fin 10→Int) (u v:Value) (xs l:List Int) (w:World) (hx:Ie x) (hu:Rd w w.heap.size u (xs.map vi)) (hxl:xs.length=FQ x) (hS:JO xs) (h:Rd w w.heap.size v (l.map vi)) (hi:∀y∈l,BI y) (hl:l.length≤1000000000000000):
  Calls Tryz.prog 46 #[Iw nm (.slice A n c) x,u,v,.int .i64 (M:Nat)] w (Lr x w):=by
 have HX:=V3 hx;obtain⟨h3,h3',h4,h4',h5,h5',h6,h6',h7,h7',h8,h8'⟩:=hx;obtain⟨U,N,cu,rfl,hN, -⟩:=hu.form;rw[List.length_map]at hN;obtain⟨B,p,q,rfl,hp, -⟩:=h.form;rw[List.length_map]at hp;have HP:=V3 hp;have HNx:=V3 hN;have hpl:p≤1000000000000000:=by omega
 have hsp:(N:Int)=x 8-x 7+1:=by
  rw[hN,hxl];unfold FQ;omega
 have HSP:=V3 hsp;have hN1:1≤N:=by omega
 have hN2:N≤14:=by omega
 have HU:=V3 hu;have HS:=V3 hS;have HV:=V3 h;have HI:=V3 hi;have hbd:AR (w.alloc (.cells (AQ nm (.slice A n c) x).toArray 54)) w.heap.size 54 (AQ nm (.slice A n c) x).toArray:=VW _ _ _;have hG0:=(VU w).alloc (.cells (AQ nm (.slice A n c) x).toArray 54);have HB:=V3 hbd;have HG0:=V3 hG0;clear hu hxl hS h hi hp hN hsp hbd hG0;rw[Dm];go_enter Tryz.func46,Tryz.ntmps46;go_upto_region 1 with fail;generalize w.alloc (.cells (AQ nm (.slice A n c) x).toArray 54)=w1 at*;go_wp2_with fail;go_loopw [9,11] (fun o i wr=>∃(j m:Nat) (C:Option Addr) (q:Nat) (cs:List Clm),j≤p∧i= .int .i64 j∧o= .slice C m q∧m=cs.length∧m≤M∧L4 x cs∧CG wr w.heap.size (.slice C m q) cs∧AR wr w.heap.size 54 (AQ nm (.slice A n c) x).toArray∧A4 w wr) (fun _ i _=>p-(intOf i).toNat)
 case atStart=>exact⟨0,0,none,0,[],by omega,rfl,rfl,rfl,by omega,L4.nil x,CG.nil _ _,HB.out,HG0.out⟩
 case round=>
  clear HB HG0;obtain⟨j,m,C,q2,cs,hj,rfl,rfl,hm,hm5,hF,hM,hB,hG⟩:=hrel;have HM:=V3 hm;have HF:=V3 hF;clear hm hF;by_cases hlt:j+2<p∧m<M
  ·obtain⟨hj3,hm8⟩:=hlt;have hjl:j+2<l.length:=by rw[←HP.out];exact hj3
   have hR:=HV.out.grew (V6 _) hG;obtain⟨ad,rfl,hadb,a0⟩:=hR.int_at (j:=j) (by omega);obtain⟨_,h1,_,a1⟩:=hR.int_at (j:=j+1) (by omega);obtain rfl:=VE h1;obtain⟨_,h2,_,a2⟩:=hR.int_at (j:=j+2) (by omega);obtain rfl:=VE h2;have i0:=Ft HI.out j;have i1:=Ft HI.out (j+1);have i2:=Ft HI.out (j+2);clear h1 h2 hjl hR;generalize l.getD j 0=z0 at*;generalize l.getD (j+1) 0=z1 at*;generalize l.getD (j+2) 0=z2 at*;have a1':wr.cell? ⟨ad.block,ad.off+(j+1),none⟩=some (.int .i64 z1):=by simpa[Addr.add]using a1
   have a2':wr.cell? ⟨ad.block,ad.off+(j+2),none⟩=some (.int .i64 z2):=by simpa[Addr.add]using a2
   have b1:decide ((j:Int)+2<(p:Int))=true:=by simp;omega
   have b2:decide (m<M)=true:=by simp;omega
   have HA0:=V3 (LO z0 (N:Int) wr i0 (by omega) (by omega));have HA1:=V3 (LO z1 3 wr i1 (by omega) (by omega));have HA2:=V3 (LO z2 16 wr i2 (by omega) (by omega));have hf0:=Fu z0 (N:Int).toNat (by omega);have hr:=Fu z1 (3:Int).toNat (by decide);have hk:=Fu z2 (16:Int).toNat (by decide);generalize FC z0 (N:Int).toNat=f at*;generalize FC z1 (3:Int).toNat=r at*;generalize FC z2 (16:Int).toNat=k at*;have hf:f<N:=by simpa using hf0
   clear a1 a2 hf0;go_wp2_with fail;refine HA0.out.mono ?_;rintro e w' ⟨rfl,hw'⟩;rw[hw'];clear hw' w';go_wp2_with fail;refine HA1.out.mono ?_;rintro e w' ⟨rfl,hw'⟩;rw[hw'];clear hw' w';have hr3:r<3:=hr;have hk16:k<16:=hk;have f0:(0:Int)≤(f:Int):=by omega
   have f1:(f:Int)<(N:Int):=by omega
   obtain⟨xf,hxf⟩:∃y,xs.getD f 0=y:=⟨_,rfl⟩;have hsf:=HS.out f (by rw[←HNx.out];exact hf);rw[hxf]at hsf;obtain⟨hsf1,hsf2⟩:=hsf;obtain⟨ua,rfl,hub,e0⟩:=(HU.out.grew (V6 _) hG).int_at (j:=f) (by rw[←HNx.out];exact hf);rw[hxf]at e0;clear hxf hr hk HA0 HA1;go_upto_region 8 with fail;obtain⟨g,hg⟩:∃g:Nat,(if(f:Int)+(r:Int)<(N:Int)-1 then(f:Int)+(r:Int)else(N:Int)-1)=(g:Int):=by
    by_cases hc:(f:Int)+(r:Int)<(N:Int)-1
    ·exact⟨f+r,by rw[VN hc];rfl⟩
    exact⟨N-1,by rw[VM hc];omega⟩
   have hg1:f≤g:=by omega
   have hg2:g<N:=by omega
   rw[hg];clear hg;go_wp2_with fail;have HB:=V3 hB;have HG:=V3 hG;have HMM:=V3 hM;have hx13:(N:Int)≤14:=by omega
   have HF1:=V3 (show -124≤xf∧xf≤124 from⟨by omega,by omega⟩);clear hB hG hM e0 hsf1 hsf2;go_loopw [14,15,16] (fun a b i w'=>∃(t:Nat) (lo hi:Int),f≤t∧t≤g+1∧i= .int .i64 (t:Nat)∧a= .int .i64 lo∧b= .int .i64 hi∧ -124≤lo∧lo≤hi∧hi≤124∧w'=wr) (fun _ _ i _=>g+1-(intOf i).toNat)
   case atStart=>exact⟨f,xf,xf,by omega,by omega,rfl,rfl,rfl,HF1.out.1,by omega,HF1.out.2,rfl⟩
   case round=>
    obtain⟨t,lo,hi,ht1,ht2,rfl,rfl,rfl,hl1,hl2,hl3,rfl⟩:=hrel;by_cases hlt:t≤g
    ·have tt:decide ((t:Int)≤(g:Int))=true:=by simpa using hlt
     have htN:t<N:=by omega
     obtain⟨y,hy⟩:∃y,xs.getD t 0=y:=⟨_,rfl⟩;have hs:=HS.out t (by rw[←HNx.out];exact htN);rw[hy]at hs;obtain⟨_,hua,_,e0⟩:=(HU.out.grew (V6 _) HG.out).int_at (j:=t) (by rw[←HNx.out];exact htN);obtain rfl:=VE hua;rw[hy]at e0;clear hy hua;obtain⟨hs1,hs2⟩:=hs;have y1: -124≤y:=by omega
     have y2:y≤124:=by omega
     clear hs1 hs2;go_wp2_with fail;go_roundw
     case rel=>exact⟨t+1,_,_,by omega,by omega,by go_num,rfl,rfl,by omega,by omega,by omega,trivial⟩
     case measure=>simp[intOf];omega
    have tt:decide ((t:Int)≤(g:Int))=false:=by simpa using hlt
    have a2'':=a2';go_wp2_with fail;refine HA2.out.mono ?_;rintro e w' ⟨rfl,hw'⟩;rw[hw'];clear hw' w' a2'';have k0:(0:Int)≤(k:Int):=by omega
    have k1:(k:Int)<16:=by omega
    obtain⟨c3,c4,c5,c6,c7,c8⟩:=Iz HB.out;have hn5:cs.length<1099511627776:=by rw[←HM.out];omega
    have hV:=T5 HX.out (a:=(f:Int)) (b:=(g:Int)) (lo:=lo-(k:Int)/4) (hi:=hi+(k:Int)%4) (by omega) (by omega) (by have:=HSP.out;omega) (by omega) (by omega) (by omega);have HV2:=V3 (HF.out.snoc hV.1 hV.2);clear hV;go_wp2_with(at_builtin;refine Qg rfl (.tmp 82) (.tmp 100) rfl rfl (HMM.out.alloc _) wr.heap.size 1 ((x 7+(f:Int),x 7+(g:Int),lo-(k:Int)/4,hi+(k:Int)%4):Clm) 126 rfl (V6 _) (VW wr 126 _) hn5 (by have:=HG.out.size;simp;omega) ?_;intro r6 cap6 w6 hM6 hk6 hr6 hbr6 hlr6;have HB6:=V3 ((HB.out.alloc (.cells (Dp (x 7+(f:Int),x 7+(g:Int),lo-(k:Int)/4,hi+(k:Int)%4)).toArray 126)).keep hk6 (fun e=>(HMM.out.alloc _).ne_box e (HB.out.alloc (.cells (Dp (x 7+(f:Int),x 7+(g:Int),lo-(k:Int)/4,hi+(k:Int)%4)).toArray 126)) (by decide) rfl));have HG6:=V3 (A4.appC (HG.out.alloc _) (HMM.out.alloc _) hk6);rw[←HM.out]at hM6 ⊢;have HM6:=V3 hM6;clear hM6 hk6 hr6 hbr6 hlr6);go_roundw
    case rel=>exact⟨j+3,m+1,_,cap6,cs++[_],by omega,by go_num,rfl,by rw[VR,HM.out];rfl,by omega,HV2.out,HM6.out,HB6.out,HG6.out⟩
    case measure=>simp[intOf];omega
  have hex:decide ((j:Int)+2<(p:Int))=false∨(decide ((j:Int)+2<(p:Int))=true∧decide (m<M)=false):=by
   by_cases h1:j+2<p
   ·exact .inr ⟨by simp;omega,by simp;omega⟩
   exact .inl (by simp;omega)
  clear hlt;rcases hex with h1|⟨h1,h2⟩
  ·go_wp2_with fail;go_ret;exact⟨_,cs,rfl,hM,HF.out,by rw[←HM.out];exact VD hm5 hM5,hG⟩
  go_wp2_with fail;go_ret;exact⟨_,cs,rfl,hM,HF.out,by rw[←HM.out];exact VD hm5 hM5,hG⟩
end Go.Proofs.YthpflelgbadkcaaGreatDoor
