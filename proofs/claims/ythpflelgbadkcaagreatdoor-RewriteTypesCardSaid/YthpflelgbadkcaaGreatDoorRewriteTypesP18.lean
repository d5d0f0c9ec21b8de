/- What the card of the law stands on: ParE, DoorW. -/
import Derived.Test.YthpflelgbadkcaaGreatDoorRewriteTypesP07
import Derived.Test.YthpflelgbadkcaaGreatDoorRewriteTypesP17
import Derived.Test.YthpflelgbadkcaaGreatDoorRewriteTypesP01
set_option maxRecDepth 100000
set_option maxHeartbeats 12800000
set_option linter.unusedVariables false
set_option linter.unusedSimpArgs false
namespace Go.Proofs.YthpflelgbadkcaaGreatDoor
open Go.RowKit Pl
def Cy (w:World):Prop:=DI w∧L6 w∧EB w
def L9 (g:Nat):Prop:=0<g∧1<g∧5<g∧4<g
theorem DI.keep {S:Nat→Prop} {w w':World} (h:DI w) (g:AA S w w') (hs:¬S 0):DI w':=⟨VA h.1 g.size,fun j s hj=>(World.cell?_of_block (a:=⟨0,j,none⟩) (g.block _ h.1 hs)).trans (h.2 j s hj)⟩
theorem Cy.keep {S:Nat→Prop} {w w':World} {g:Nat} (h:Cy w) (hl:L9 g) (k:AA S w w') (hs:∀i,i<g→¬S i):Cy w':=⟨h.1.keep k (hs _ hl.1),h.2.1.keep k (hs _ hl.2.2.1),h.2.2.keep k (hs _ hl.2.1) (hs _ hl.2.2.2)⟩
def Cd (g:Nat) (n:Int) (us:List C7) (t:Ex) (w:World) (e:Ending) (w':World):Prop:=∃cs,e= .returned (.agg cs.toArray)∧AZ w' (DK 0 w.heap.size w'.heap.size) t cs∧DB w' g n us∧E7 g w w'
theorem CN {w:World} {Q:Nat→Prop} {t:Ex} {cs:List Value} (h:AZ w Q t cs):cs.length=11:=by
 obtain⟨a,b,c,rfl, -⟩:=h.open_;rfl
theorem Fq {w':World} {Q':Nat→Prop} {f:Int} {ea eb:Ex} {ca cb:List Value} {z:Nat} {t:TypeId} (ha:AZ w' Q' ea ca) (hb:AZ w' Q' eb cb) (hz:Q' z) (hbz:AR w' z t (ca++cb).toArray) (hl:ca.length=11) (hl2:cb.length=11):AZ w' Q' (Ax f ea eb) (Gm f z):=by
 refine AZ.mk_ (e:=Ax f ea eb) (Ba.nil _ _ _) (Ba.nil _ _ _) ⟨_,2,rfl,V6 _,fun _=>⟨z,0,rfl,hz,Bc.of fun j e' hj=>?_⟩⟩;rcases j with _|_|j
 ·obtain rfl:ea=e':=by simpa[Ax,Ex.kids]using hj
  exact⟨ca,hbz.rangeN 0 _ (by rw[List.drop_zero,List.take_left'];rfl),ha⟩
 ·obtain rfl:eb=e':=by simpa[Ax,Ex.kids]using hj
  exact⟨cb,hbz.rangeN 11 _ (by rw[←hl,List.drop_left',List.take_of_length_le];exact V6 _;rfl),hb⟩
 simp[Ax,Ex.kids]at hj
def O1 (w:World) (g:Nat):Nat:=match w.cell? ⟨g,0,none⟩with
 |some (.slice _ m _)=>m
 |_=>0
theorem Dd {w:World} {g:Nat} {n:Int} {ts:List C7} (h:DB w g n ts):O1 w g=ts.length:=by
 obtain⟨A,m,c,hb, -,rfl⟩:=h;unfold O1;rw[hb.cell 0];rfl
def OC (M E z b:Nat):Prop:=M≤b∧b<E∧b≠z
theorem QN (K g:Nat) (n:Int) (hlow:L9 g) (HIH:∀k,k≤K→∀ts e us,CE k 1 ts=some (e,us)→∀w,DB w g n ts→Cy w→Calls Tryz.prog 126 #[.pointer (some ⟨g,0,none⟩)] w (Cd g n us e w))
  (ts us1 us:List C7) (e1 e:Ex) (hp1:CE K 1 ts=some (e1,us1)) (hlp:Fk K 0 e1 us1=some (e,us)) (w:World) (h:DB w g n ts) (ht:Cy w):
  Calls Tryz.prog 125 #[.pointer (some ⟨g,0,none⟩),.int .i64 0,.func (.func 126) #[.pointer (some ⟨g,0,none⟩)] #[]] w (Cd g n us e w):=by
 have hb0:=VW w 29 (AJ 0 0).toArray;have hg0:=(VU w).alloc (.cells (AJ 0 0).toArray 29);have hs0:(w.alloc (.cells (AJ 0 0).toArray 29)).heap.size=w.heap.size+1:=by simp
 have hg:=h.lt;have hpt:=h.grew hg0;have htt:Cy (w.alloc (.cells (AJ 0 0).toArray 29)):=ht.keep hlow hg0 (fun _ _ h=>h);have HS:=V3 (V5 hs0 hg);have HLow:=V3 hlow;have HI:=V3 HIH;have HLP:=V3 hlp;have HC1:=V3 (HIH K (V6 _) ts e1 us1 hp1 _ hpt htt);clear h ht hs0 hg hpt hlow HIH hp1 hlp;go_enter Tryz.func125,Tryz.ntmps125;go_upto_region 1 with fail;change Code.wp _ _ _ _ (w.alloc (.cells (AJ 0 0).toArray 29));generalize w.alloc (.cells (AJ 0 0).toArray 29)=w1 at*;have HG:=V3 hg0;have HT:=V3 htt;have HB0:=V3 hb0;clear hg0 htt hb0;go_wp2_with(first|(go_at_call 126;(with_reducible refine HC1.out.mono ?_);rintro e3 w2 ⟨cs1,rfl,hr1,hp2,hk2⟩;have h1l:=CN hr1;have h1o:=Ap hr1;have HR1:=V3 (V5 hr1 (V5 hp2 (V5 hk2 h1l)));clear hr1 hp2 hk2 HC1)|((with_reducible refine AG 29 (.tmp 7) (.tmp 11) rfl ?_);refine BL 29 (.tmp 7) (.tmp 11) w2.heap.size cs1 (AJ 0 0) 29 (by rw[h1l];exact AE) (by rw[h1l];rfl) h1o rfl rfl rfl rfl (VW w2 29 _) ?_;intro w3 hb3 k3 d3;have HG3:=V3 (show A4 w2 w3 from VV ((VU w2).alloc _) k3 (fun i hi e=>by omega));have HB3:=V3 hb3;clear k3 d3 hb3 h1o h1l));have HZ:=V3 (show w.heap.size<w2.heap.size∧g<w.heap.size∧w1.heap.size=w.heap.size+1 from⟨by have:=HR1.out.2.2.1.size;have:=HS.out;omega,HS.out.2,HS.out.1⟩);have HI0:=V3 (show Fk K 0 e1 us1=some (e,us)∧DB w3 g n us1∧AR w3 w2.heap.size 29 cs1.toArray∧AZ w3 (OC w1.heap.size w3.heap.size w2.heap.size) e1 cs1∧AA (fun i=>i=g) w1 w3 from
  ⟨HLP.out,HR1.out.2.1.grew HG3.out,HB3.out,AZ.keep (S:=fun _=>False) (fun b hb=>⟨hb.2,fun h=>h,by have:=hb.1;omega,VA hb.2 HG3.out.size,by have:=hb.2;omega⟩) HG3.out _ _ HR1.out.1,AA.grew HR1.out.2.2.1 HG3.out⟩)
 clear HLP HR1 HG3 HB3;generalize w2.heap.size=z at*;dsimp only[Act.put];go_loopw [] (fun wr=>∃(k:Nat) (left:Ex) (cs:List Value) (ts':List C7),k≤K∧Fk k 0 left ts'=some (e,us)∧DB wr g n ts'∧AR wr z 29 cs.toArray∧AZ wr (OC w1.heap.size wr.heap.size z) left cs∧AA (fun i=>i=g∨i=z) w1 wr) (fun wr=>O1 wr g)
 case atStart=>exact⟨K,e1,cs1,us1,V6 _,HI0.out.1,HI0.out.2.1,HI0.out.2.2.1,HI0.out.2.2.2.1,AA.mono HI0.out.2.2.2.2 fun _ _ e=> .inl e⟩
 case round=>
  obtain⟨k,left,cs,ts',hk,hlp,hp,hbz,hrd,hkp⟩:=hrel;have hzr:=hbz.lt;have hkg:AA (fun i=>i=g∨w.heap.size<i) w1 wr:=AA.mono hkp fun i hi e=>by have:=HZ.out;omega
  have htr:Cy wr:=HT.out.keep HLow.out hkp (fun i hi e=>by have:=HZ.out;omega);have hcl:=CN hrd;have hco:=Ap hrd;have HP:=V3 hp;have HBZ:=V3 hbz;have HRD:=V3 hrd;have HKP:=V3 hkp;have HTR:=V3 htr;have HLP:=V3 hlp;have HK:=V3 hk;have HCL:=V3 (V5 hcl hco);have o0:wr.cell? ⟨1,0,none⟩=some (.string ⟨#[43]⟩):=htr.2.2.2.1 0 _ rfl;have o1:wr.cell? ⟨1,1,none⟩=some (.string ⟨#[45]⟩):=htr.2.2.2.1 1 _ rfl;have HIs:=V3 (show Calls Tryz.prog 143 #[.pointer (some ⟨g,0,none⟩),.int .i64 3,.string ⟨#[43]⟩] wr (fun e w'=>e= .returned (.bool (FW ts' 3 ⟨#[43]⟩))∧wr=w')from(Hn wr g n ts' 3 ⟨#[43]⟩ hp).mono fun _ _ h=>⟨h.1,h.2.symm⟩);have HKPW:=V3 (show AA (fun i=>i=g∨i=z) w1 wr from hkp);clear hp hrd hkp htr hlp hk hcl hco hkg;have hpos:∃k2,k=k2+1:=by
   rcases k with _|k2
   ·have h:=HLP.out;rw[Fk]at h;cases h
   exact⟨k2,rfl⟩
  obtain⟨k2,rfl⟩:=hpos;have hlp:=HLP.out;rw[Fk]at hlp;rw[show Ml (2*0)=⟨#[43]⟩from rfl,show Ml (2*0+1)=⟨#[45]⟩from rfl]at hlp;rcases h0:FW ts' 3 ⟨#[43]⟩
  ·rw[h0]at HIs;rw[VM (by rw[h0];simp)]at hlp;rcases h1:FW ts' 3 ⟨#[45]⟩
   ·rw[VM (by rw[h1];simp)]at hlp;simp only[VQ,VP]at hlp;obtain⟨rfl,rfl⟩:=hlp;have HTr:=V3 ((F3 wr g n ts' ⟨#[45]⟩ HP.out h1).mono (fun _ w' h=>show _∧wr=w' from⟨h.1,h.2.symm⟩));clear h0 h1;have hb0r:=HB0.out.keep HKPW.out (by have:=HZ.out;omega);have hcl:=HCL.out.1;have hco:=HCL.out.2;go_wp2_with(first|(go_at_call 143;(with_reducible refine HIs.out.mono ?_);rintro e3 w9 ⟨rfl,rfl⟩)|(go_at_call 144;(with_reducible refine HTr.out.mono ?_);rintro e3 w9 ⟨rfl,rfl⟩)|((with_reducible refine AF 29 (.tmp 7) rfl ?_);refine BZ 29 Tryz.underlying29 rfl (.tmp 7) z cs 29 (by rw[hcl];exact AE) rfl rfl rfl hbz ?_)|((with_reducible refine AG 29 (.tmp 6) (.tmp 27) rfl ?_);refine BL 29 (.tmp 6) (.tmp 27) w.heap.size cs (AJ 0 0) 29 (by rw[hcl];exact AE) (by rw[hcl];rfl) hco rfl rfl rfl rfl hb0r ?_;intro w8 hb8 k8 d8));refine bodyPost_ret (AO rfl rfl (by rw[HCL.out.1];exact AE) Tryz.underlying29 rfl hb8) rfl ?_;have hz:=HZ.out;have hsz:=k8.size;exact⟨cs,rfl,AZ.keep (fun b hb=>⟨hb.2.1,by have:=hb.1;omega,.inr (by have:=hb.1;omega),VA hb.2.1 hsz⟩) k8 _ _ HRD.out,HP.out.keep k8 (fun i hi e=>by omega),VV (VV (Vb HG.out) HKP.out fun i hi e=>by omega) k8 fun i hi e=>by omega⟩
   rw[VN (by rw[h1])]at hlp;obtain⟨t,us0,rfl⟩:=Dk h1;rw[List.tail_cons]at hlp;cases hpp:CE k2 1 us0 with
   |none=>rw[hpp]at hlp;cases hlp
   |some p=>
    obtain⟨er,us2⟩:=p;rw[hpp]at hlp;dsimp only at hlp;have HLP2:=V3 hlp;have HPL:=V3 (Hs hpp);have HTy:=V3 (Eu wr g n t us0 ⟨#[45]⟩ HP.out h1);have HC2:=V3 (fun w' (h:DB w' g n us0) ht=>HI.out k2 (by have:=HK.out;omega) us0 er us2 hpp w' h ht);clear hlp hpp h0 h1;go_upto_region 7 with(first|(go_at_call 143;(with_reducible refine HIs.out.mono ?_);rintro e3 w9 ⟨rfl,rfl⟩)|(go_at_call 144;(with_reducible refine HTy.out.mono ?_);rintro e3 w4 ⟨rfl,hp4,hk4⟩;have HR4:=V3 (V5 hp4 hk4);clear hp4 hk4));clear HTy HIs;go_upto_region 8 with(first|(go_at_call 126;(with_reducible refine(HC2.out _ HR4.out.1 (HTR.out.keep HLow.out HR4.out.2 (fun i hi e=>by omega))).mono ?_);rintro e3 w5 ⟨cs2,rfl,hr5,hp5,hk5⟩;have h2l:=CN hr5;have h2o:=Ap hr5;have HR5:=V3 (V5 hr5 (V5 hp5 (V5 hk5 h2l)));clear hr5 hp5 hk5)|((with_reducible refine AG 29 (.tmp 9) (.tmp 29) rfl ?_);refine BL 29 (.tmp 9) (.tmp 29) w5.heap.size cs2 (AJ 0 0) 29 (by rw[h2l];exact AE) (by rw[h2l];rfl) h2o rfl rfl rfl rfl (VW w5 29 _) ?_;intro w6 hb6 k6 d6;have HG6:=V3 (show A4 w5 w6 from VV ((VU w5).alloc _) k6 (fun i hi e=>by omega));clear k6 d6 h2o h2l));clear HC2;have HB6:=V3 hb6;have k46:AA (fun i=>i=g) wr w6:=AA.grew (VV HR4.out.2 HR5.out.2.2.1 fun i _ h=>h) HG6.out;have hbz6:=HBZ.out.keep k46 (by have:=HZ.out;omega);have HBZ6:=V3 hbz6;have HK46:=V3 k46;have hp6:=HR5.out.2.1.grew HG6.out;have HP6:=V3 hp6;obtain⟨va1,va2,va3,hca, -⟩:=HRD.out.open_;obtain⟨vb1,vb2,vb3,hcb, -⟩:=HR5.out.1.open_;have HCA:=V3 hca;have HCB:=V3 hcb;clear k46 hbz hca hcb hp6;go_wp2_with(first|((with_reducible refine AF 29 (.tmp 7) rfl ?_);refine BZ 29 Tryz.underlying29 rfl (.tmp 7) z cs 29 (by rw[HCL.out.1];exact AE) rfl rfl rfl hbz6 ?_)|((with_reducible refine AF 29 (.tmp 9) rfl ?_);refine BZ 29 Tryz.underlying29 rfl (.tmp 9) w5.heap.size cs2 29 (by rw[HR5.out.2.2.2];exact AE) rfl rfl rfl hb6 ?_)|((with_reducible refine En 27 2 #[(0,.tmp 31),(1,.tmp 32)] rfl ?_);refine Dz rfl (.tmp 31) (.tmp 32) rfl (by rw[←HCA.out];rfl) (by rw[←HCB.out];rfl) ?_;intro w7 hbk g7;have hbz7:=hbz6.grew g7;have HBK:=V3 hbk;have HG7:=V3 g7;clear hbk g7)|((with_reducible refine AG 29 (.tmp 7) (.tmp 34) rfl ?_);refine BL 29 (.tmp 7) (.tmp 34) z (Gm 1 w6.heap.size) cs 29 AE (by rw[HCL.out.1];rfl) (Ew _ _) rfl rfl rfl rfl hbz7 ?_;intro w8 hb8 k8 d8;have HB8:=V3 hb8;have HK8:=V3 k8;clear hb8 k8 d8));have HKZ:=V3 (V5 HK8.out.size HG7.out.size);dsimp only[Act.put];go_roundw
    case rel=>
     have hz:=HZ.out;have hs46:=HK46.out.size;have hkz:=HKZ.out;have hw5:=HG6.out.size;have hw4:=HR5.out.2.2.1.size;have hw3:=HR4.out.2.size;have hbk:=HBK.out;rw[←HCA.out,←HCB.out]at hbk;have hM:=HKP.out.size;refine⟨k2,Ax 1 left er,Gm 1 w6.heap.size,us2,by have:=HK.out;omega,HLP2.out,(HP6.out.grew HG7.out).keep HK8.out (fun i hi e=>by omega),HB8.out,?_,VV (VV HKP.out (AA.grew HK46.out HG7.out) fun i hi e=> .inl e) HK8.out fun i hi e=> .inr e⟩;refine Fq ?_ ?_ ?_ (hbk.keep HK8.out (by omega)) HCL.out.1 HR5.out.2.2.2
     ·exact AZ.keep (S:=fun i=>i=g∨i=z) (fun b hb=>⟨hb.2.1,fun h=>by have:=hb.1;have:=hb.2.2;omega,hb.1,by have:=hb.2.1;omega,hb.2.2⟩) (VV (AA.mono (AA.grew HK46.out HG7.out) fun i _ h=> .inl h) HK8.out fun i _ h=> .inr h) _ _ HRD.out
     ·exact AZ.keep (S:=fun i=>i=z) (fun b hb=>⟨hb.2,fun h=>by have:=hb.1;omega,by have:=hb.1;omega,by have:=hb.2;omega,by have:=hb.1;omega⟩) (VV (Vb (HG6.out.trans HG7.out)) HK8.out fun i _ h=>h) _ _ HR5.out.1
     exact⟨by omega,by have:=HBK.out.lt;omega,by omega⟩
    case measure=>
     rw[Dd ((HP6.out.grew HG7.out).keep HK8.out (fun i hi e=>by have:=HZ.out;omega)),Dd HP.out];have:=HPL.out;simp only[List.length_cons];omega
  rw[VN (by rw[h0])]at hlp;obtain⟨t,us0,rfl⟩:=Dk h0;rw[List.tail_cons]at hlp;cases hpp:CE k2 1 us0 with
  |none=>rw[hpp]at hlp;cases hlp
  |some p=>
   obtain⟨er,us2⟩:=p;rw[hpp]at hlp;dsimp only at hlp;have HLP2:=V3 hlp;have HPL:=V3 (Hs hpp);rw[h0]at HIs;have HTy:=V3 (Eu wr g n t us0 ⟨#[43]⟩ HP.out h0);have HC2:=V3 (fun w' (h:DB w' g n us0) ht=>HI.out k2 (by have:=HK.out;omega) us0 er us2 hpp w' h ht);clear hlp hpp h0;go_upto_region 7 with(first|(go_at_call 143;(with_reducible refine HIs.out.mono ?_);rintro e3 w9 ⟨rfl,rfl⟩)|(go_at_call 144;(with_reducible refine HTy.out.mono ?_);rintro e3 w4 ⟨rfl,hp4,hk4⟩;have HR4:=V3 (V5 hp4 hk4);clear hp4 hk4));clear HTy HIs;go_upto_region 8 with(first|(go_at_call 126;(with_reducible refine(HC2.out _ HR4.out.1 (HTR.out.keep HLow.out HR4.out.2 (fun i hi e=>by omega))).mono ?_);rintro e3 w5 ⟨cs2,rfl,hr5,hp5,hk5⟩;have h2l:=CN hr5;have h2o:=Ap hr5;have HR5:=V3 (V5 hr5 (V5 hp5 (V5 hk5 h2l)));clear hr5 hp5 hk5)|((with_reducible refine AG 29 (.tmp 9) (.tmp 29) rfl ?_);refine BL 29 (.tmp 9) (.tmp 29) w5.heap.size cs2 (AJ 0 0) 29 (by rw[h2l];exact AE) (by rw[h2l];rfl) h2o rfl rfl rfl rfl (VW w5 29 _) ?_;intro w6 hb6 k6 d6;have HG6:=V3 (show A4 w5 w6 from VV ((VU w5).alloc _) k6 (fun i hi e=>by omega));clear k6 d6 h2o h2l));clear HC2;have HB6:=V3 hb6;have k46:AA (fun i=>i=g) wr w6:=AA.grew (VV HR4.out.2 HR5.out.2.2.1 fun i _ h=>h) HG6.out;have hbz6:=HBZ.out.keep k46 (by have:=HZ.out;omega);have HBZ6:=V3 hbz6;have HK46:=V3 k46;have hp6:=HR5.out.2.1.grew HG6.out;have HP6:=V3 hp6;obtain⟨va1,va2,va3,hca, -⟩:=HRD.out.open_;obtain⟨vb1,vb2,vb3,hcb, -⟩:=HR5.out.1.open_;have HCA:=V3 hca;have HCB:=V3 hcb;clear k46 hbz hca hcb hp6;go_wp2_with(first|((with_reducible refine AF 29 (.tmp 7) rfl ?_);refine BZ 29 Tryz.underlying29 rfl (.tmp 7) z cs 29 (by rw[HCL.out.1];exact AE) rfl rfl rfl hbz6 ?_)|((with_reducible refine AF 29 (.tmp 9) rfl ?_);refine BZ 29 Tryz.underlying29 rfl (.tmp 9) w5.heap.size cs2 29 (by rw[HR5.out.2.2.2];exact AE) rfl rfl rfl hb6 ?_)|((with_reducible refine En 27 2 #[(0,.tmp 31),(1,.tmp 32)] rfl ?_);refine Dz rfl (.tmp 31) (.tmp 32) rfl (by rw[←HCA.out];rfl) (by rw[←HCB.out];rfl) ?_;intro w7 hbk g7;have hbz7:=hbz6.grew g7;have HBK:=V3 hbk;have HG7:=V3 g7;clear hbk g7)|((with_reducible refine AG 29 (.tmp 7) (.tmp 34) rfl ?_);refine BL 29 (.tmp 7) (.tmp 34) z (Gm 0 w6.heap.size) cs 29 AE (by rw[HCL.out.1];rfl) (Ew _ _) rfl rfl rfl rfl hbz7 ?_;intro w8 hb8 k8 d8;have HB8:=V3 hb8;have HK8:=V3 k8;clear hb8 k8 d8));have HKZ:=V3 (V5 HK8.out.size HG7.out.size);dsimp only[Act.put];go_roundw
   case rel=>
    have hz:=HZ.out;have hs46:=HK46.out.size;have hkz:=HKZ.out;have hw5:=HG6.out.size;have hw4:=HR5.out.2.2.1.size;have hw3:=HR4.out.2.size;have hbk:=HBK.out;rw[←HCA.out,←HCB.out]at hbk;have hM:=HKP.out.size;refine⟨k2,Ax 0 left er,Gm 0 w6.heap.size,us2,by have:=HK.out;omega,HLP2.out,(HP6.out.grew HG7.out).keep HK8.out (fun i hi e=>by omega),HB8.out,?_,VV (VV HKP.out (AA.grew HK46.out HG7.out) fun i hi e=> .inl e) HK8.out fun i hi e=> .inr e⟩;refine Fq ?_ ?_ ?_ (hbk.keep HK8.out (by omega)) HCL.out.1 HR5.out.2.2.2
    ·exact AZ.keep (S:=fun i=>i=g∨i=z) (fun b hb=>⟨hb.2.1,fun h=>by have:=hb.1;have:=hb.2.2;omega,hb.1,by have:=hb.2.1;omega,hb.2.2⟩) (VV (AA.mono (AA.grew HK46.out HG7.out) fun i _ h=> .inl h) HK8.out fun i _ h=> .inr h) _ _ HRD.out
    ·exact AZ.keep (S:=fun i=>i=z) (fun b hb=>⟨hb.2,fun h=>by have:=hb.1;omega,by have:=hb.1;omega,by have:=hb.2;omega,by have:=hb.1;omega⟩) (VV (Vb (HG6.out.trans HG7.out)) HK8.out fun i _ h=>h) _ _ HR5.out.1
    exact⟨by omega,by have:=HBK.out.lt;omega,by omega⟩
   case measure=>
    rw[Dd ((HP6.out.grew HG7.out).keep HK8.out (fun i hi e=>by have:=HZ.out;omega)),Dd HP.out];have:=HPL.out;simp only[List.length_cons];omega
theorem R4 (K g:Nat) (n:Int) (hlow:L9 g) (HIH:∀k,k≤K→∀ts e us,CE k 2 ts=some (e,us)→∀w,DB w g n ts→Cy w→Calls Tryz.prog 145 #[.pointer (some ⟨g,0,none⟩)] w (Cd g n us e w))
  (ts us1 us:List C7) (e1 e:Ex) (hp1:CE K 2 ts=some (e1,us1)) (hlp:Fk K 1 e1 us1=some (e,us)) (w:World) (h:DB w g n ts) (ht:Cy w):
  Calls Tryz.prog 125 #[.pointer (some ⟨g,0,none⟩),.int .i64 2,.func (.func 145) #[.pointer (some ⟨g,0,none⟩)] #[]] w (Cd g n us e w):=by
 have hb0:=VW w 29 (AJ 0 0).toArray;have hg0:=(VU w).alloc (.cells (AJ 0 0).toArray 29);have hs0:(w.alloc (.cells (AJ 0 0).toArray 29)).heap.size=w.heap.size+1:=by simp
 have hg:=h.lt;have hpt:=h.grew hg0;have htt:Cy (w.alloc (.cells (AJ 0 0).toArray 29)):=ht.keep hlow hg0 (fun _ _ h=>h);have HS:=V3 (V5 hs0 hg);have HLow:=V3 hlow;have HI:=V3 HIH;have HLP:=V3 hlp;have HC1:=V3 (HIH K (V6 _) ts e1 us1 hp1 _ hpt htt);clear h ht hs0 hg hpt hlow HIH hp1 hlp;go_enter Tryz.func125,Tryz.ntmps125;go_upto_region 1 with fail;change Code.wp _ _ _ _ (w.alloc (.cells (AJ 0 0).toArray 29));generalize w.alloc (.cells (AJ 0 0).toArray 29)=w1 at*;have HG:=V3 hg0;have HT:=V3 htt;have HB0:=V3 hb0;clear hg0 htt hb0;go_wp2_with(first|(go_at_call 145;(with_reducible refine HC1.out.mono ?_);rintro e3 w2 ⟨cs1,rfl,hr1,hp2,hk2⟩;have h1l:=CN hr1;have h1o:=Ap hr1;have HR1:=V3 (V5 hr1 (V5 hp2 (V5 hk2 h1l)));clear hr1 hp2 hk2 HC1)|((with_reducible refine AG 29 (.tmp 7) (.tmp 11) rfl ?_);refine BL 29 (.tmp 7) (.tmp 11) w2.heap.size cs1 (AJ 0 0) 29 (by rw[h1l];exact AE) (by rw[h1l];rfl) h1o rfl rfl rfl rfl (VW w2 29 _) ?_;intro w3 hb3 k3 d3;have HG3:=V3 (show A4 w2 w3 from VV ((VU w2).alloc _) k3 (fun i hi e=>by omega));have HB3:=V3 hb3;clear k3 d3 hb3 h1o h1l));have HZ:=V3 (show w.heap.size<w2.heap.size∧g<w.heap.size∧w1.heap.size=w.heap.size+1 from⟨by have:=HR1.out.2.2.1.size;have:=HS.out;omega,HS.out.2,HS.out.1⟩);have HI0:=V3 (show Fk K 1 e1 us1=some (e,us)∧DB w3 g n us1∧AR w3 w2.heap.size 29 cs1.toArray∧AZ w3 (OC w1.heap.size w3.heap.size w2.heap.size) e1 cs1∧AA (fun i=>i=g) w1 w3 from
  ⟨HLP.out,HR1.out.2.1.grew HG3.out,HB3.out,AZ.keep (S:=fun _=>False) (fun b hb=>⟨hb.2,fun h=>h,by have:=hb.1;omega,VA hb.2 HG3.out.size,by have:=hb.2;omega⟩) HG3.out _ _ HR1.out.1,AA.grew HR1.out.2.2.1 HG3.out⟩)
 clear HLP HR1 HG3 HB3;generalize w2.heap.size=z at*;dsimp only[Act.put];go_loopw [] (fun wr=>∃(k:Nat) (left:Ex) (cs:List Value) (ts':List C7),k≤K∧Fk k 1 left ts'=some (e,us)∧DB wr g n ts'∧AR wr z 29 cs.toArray∧AZ wr (OC w1.heap.size wr.heap.size z) left cs∧AA (fun i=>i=g∨i=z) w1 wr) (fun wr=>O1 wr g)
 case atStart=>exact⟨K,e1,cs1,us1,V6 _,HI0.out.1,HI0.out.2.1,HI0.out.2.2.1,HI0.out.2.2.2.1,AA.mono HI0.out.2.2.2.2 fun _ _ e=> .inl e⟩
 case round=>
  obtain⟨k,left,cs,ts',hk,hlp,hp,hbz,hrd,hkp⟩:=hrel;have hzr:=hbz.lt;have hkg:AA (fun i=>i=g∨w.heap.size<i) w1 wr:=AA.mono hkp fun i hi e=>by have:=HZ.out;omega
  have htr:Cy wr:=HT.out.keep HLow.out hkp (fun i hi e=>by have:=HZ.out;omega);have hcl:=CN hrd;have hco:=Ap hrd;have HP:=V3 hp;have HBZ:=V3 hbz;have HRD:=V3 hrd;have HKP:=V3 hkp;have HTR:=V3 htr;have HLP:=V3 hlp;have HK:=V3 hk;have HCL:=V3 (V5 hcl hco);have o0:wr.cell? ⟨1,2,none⟩=some (.string ⟨#[42]⟩):=htr.2.2.2.1 2 _ rfl;have o1:wr.cell? ⟨1,3,none⟩=some (.string ⟨#[47]⟩):=htr.2.2.2.1 3 _ rfl;have HIs:=V3 (show Calls Tryz.prog 143 #[.pointer (some ⟨g,0,none⟩),.int .i64 3,.string ⟨#[42]⟩] wr (fun e w'=>e= .returned (.bool (FW ts' 3 ⟨#[42]⟩))∧wr=w')from(Hn wr g n ts' 3 ⟨#[42]⟩ hp).mono fun _ _ h=>⟨h.1,h.2.symm⟩);have HKPW:=V3 (show AA (fun i=>i=g∨i=z) w1 wr from hkp);clear hp hrd hkp htr hlp hk hcl hco hkg;have hpos:∃k2,k=k2+1:=by
   rcases k with _|k2
   ·have h:=HLP.out;rw[Fk]at h;cases h
   exact⟨k2,rfl⟩
  obtain⟨k2,rfl⟩:=hpos;have hlp:=HLP.out;rw[Fk]at hlp;rw[show Ml (2*1)=⟨#[42]⟩from rfl,show Ml (2*1+1)=⟨#[47]⟩from rfl]at hlp;rcases h0:FW ts' 3 ⟨#[42]⟩
  ·rw[h0]at HIs;rw[VM (by rw[h0];simp)]at hlp;rcases h1:FW ts' 3 ⟨#[47]⟩
   ·rw[VM (by rw[h1];simp)]at hlp;simp only[VQ,VP]at hlp;obtain⟨rfl,rfl⟩:=hlp;have HTr:=V3 ((F3 wr g n ts' ⟨#[47]⟩ HP.out h1).mono (fun _ w' h=>show _∧wr=w' from⟨h.1,h.2.symm⟩));clear h0 h1;have hb0r:=HB0.out.keep HKPW.out (by have:=HZ.out;omega);have hcl:=HCL.out.1;have hco:=HCL.out.2;go_wp2_with(first|(go_at_call 143;(with_reducible refine HIs.out.mono ?_);rintro e3 w9 ⟨rfl,rfl⟩)|(go_at_call 144;(with_reducible refine HTr.out.mono ?_);rintro e3 w9 ⟨rfl,rfl⟩)|((with_reducible refine AF 29 (.tmp 7) rfl ?_);refine BZ 29 Tryz.underlying29 rfl (.tmp 7) z cs 29 (by rw[hcl];exact AE) rfl rfl rfl hbz ?_)|((with_reducible refine AG 29 (.tmp 6) (.tmp 27) rfl ?_);refine BL 29 (.tmp 6) (.tmp 27) w.heap.size cs (AJ 0 0) 29 (by rw[hcl];exact AE) (by rw[hcl];rfl) hco rfl rfl rfl rfl hb0r ?_;intro w8 hb8 k8 d8));refine bodyPost_ret (AO rfl rfl (by rw[HCL.out.1];exact AE) Tryz.underlying29 rfl hb8) rfl ?_;have hz:=HZ.out;have hsz:=k8.size;exact⟨cs,rfl,AZ.keep (fun b hb=>⟨hb.2.1,by have:=hb.1;omega,.inr (by have:=hb.1;omega),VA hb.2.1 hsz⟩) k8 _ _ HRD.out,HP.out.keep k8 (fun i hi e=>by omega),VV (VV (Vb HG.out) HKP.out fun i hi e=>by omega) k8 fun i hi e=>by omega⟩
   rw[VN (by rw[h1])]at hlp;obtain⟨t,us0,rfl⟩:=Dk h1;rw[List.tail_cons]at hlp;cases hpp:CE k2 2 us0 with
   |none=>rw[hpp]at hlp;cases hlp
   |some p=>
    obtain⟨er,us2⟩:=p;rw[hpp]at hlp;dsimp only at hlp;have HLP2:=V3 hlp;have HPL:=V3 (Hs hpp);have HTy:=V3 (Eu wr g n t us0 ⟨#[47]⟩ HP.out h1);have HC2:=V3 (fun w' (h:DB w' g n us0) ht=>HI.out k2 (by have:=HK.out;omega) us0 er us2 hpp w' h ht);clear hlp hpp h0 h1;go_upto_region 7 with(first|(go_at_call 143;(with_reducible refine HIs.out.mono ?_);rintro e3 w9 ⟨rfl,rfl⟩)|(go_at_call 144;(with_reducible refine HTy.out.mono ?_);rintro e3 w4 ⟨rfl,hp4,hk4⟩;have HR4:=V3 (V5 hp4 hk4);clear hp4 hk4));clear HTy HIs;go_upto_region 8 with(first|(go_at_call 145;(with_reducible refine(HC2.out _ HR4.out.1 (HTR.out.keep HLow.out HR4.out.2 (fun i hi e=>by omega))).mono ?_);rintro e3 w5 ⟨cs2,rfl,hr5,hp5,hk5⟩;have h2l:=CN hr5;have h2o:=Ap hr5;have HR5:=V3 (V5 hr5 (V5 hp5 (V5 hk5 h2l)));clear hr5 hp5 hk5)|((with_reducible refine AG 29 (.tmp 9) (.tmp 29) rfl ?_);refine BL 29 (.tmp 9) (.tmp 29) w5.heap.size cs2 (AJ 0 0) 29 (by rw[h2l];exact AE) (by rw[h2l];rfl) h2o rfl rfl rfl rfl (VW w5 29 _) ?_;intro w6 hb6 k6 d6;have HG6:=V3 (show A4 w5 w6 from VV ((VU w5).alloc _) k6 (fun i hi e=>by omega));clear k6 d6 h2o h2l));clear HC2;have HB6:=V3 hb6;have k46:AA (fun i=>i=g) wr w6:=AA.grew (VV HR4.out.2 HR5.out.2.2.1 fun i _ h=>h) HG6.out;have hbz6:=HBZ.out.keep k46 (by have:=HZ.out;omega);have HBZ6:=V3 hbz6;have HK46:=V3 k46;have hp6:=HR5.out.2.1.grew HG6.out;have HP6:=V3 hp6;obtain⟨va1,va2,va3,hca, -⟩:=HRD.out.open_;obtain⟨vb1,vb2,vb3,hcb, -⟩:=HR5.out.1.open_;have HCA:=V3 hca;have HCB:=V3 hcb;clear k46 hbz hca hcb hp6;go_wp2_with(first|((with_reducible refine AF 29 (.tmp 7) rfl ?_);refine BZ 29 Tryz.underlying29 rfl (.tmp 7) z cs 29 (by rw[HCL.out.1];exact AE) rfl rfl rfl hbz6 ?_)|((with_reducible refine AF 29 (.tmp 9) rfl ?_);refine BZ 29 Tryz.underlying29 rfl (.tmp 9) w5.heap.size cs2 29 (by rw[HR5.out.2.2.2];exact AE) rfl rfl rfl hb6 ?_)|((with_reducible refine En 27 2 #[(0,.tmp 31),(1,.tmp 32)] rfl ?_);refine Dz rfl (.tmp 31) (.tmp 32) rfl (by rw[←HCA.out];rfl) (by rw[←HCB.out];rfl) ?_;intro w7 hbk g7;have hbz7:=hbz6.grew g7;have HBK:=V3 hbk;have HG7:=V3 g7;clear hbk g7)|((with_reducible refine AG 29 (.tmp 7) (.tmp 34) rfl ?_);refine BL 29 (.tmp 7) (.tmp 34) z (Gm 3 w6.heap.size) cs 29 AE (by rw[HCL.out.1];rfl) (Ew _ _) rfl rfl rfl rfl hbz7 ?_;intro w8 hb8 k8 d8;have HB8:=V3 hb8;have HK8:=V3 k8;clear hb8 k8 d8));have HKZ:=V3 (V5 HK8.out.size HG7.out.size);dsimp only[Act.put];go_roundw
    case rel=>
     have hz:=HZ.out;have hs46:=HK46.out.size;have hkz:=HKZ.out;have hw5:=HG6.out.size;have hw4:=HR5.out.2.2.1.size;have hw3:=HR4.out.2.size;have hbk:=HBK.out;rw[←HCA.out,←HCB.out]at hbk;have hM:=HKP.out.size;refine⟨k2,Ax 3 left er,Gm 3 w6.heap.size,us2,by have:=HK.out;omega,HLP2.out,(HP6.out.grew HG7.out).keep HK8.out (fun i hi e=>by omega),HB8.out,?_,VV (VV HKP.out (AA.grew HK46.out HG7.out) fun i hi e=> .inl e) HK8.out fun i hi e=> .inr e⟩;refine Fq ?_ ?_ ?_ (hbk.keep HK8.out (by omega)) HCL.out.1 HR5.out.2.2.2
     ·exact AZ.keep (S:=fun i=>i=g∨i=z) (fun b hb=>⟨hb.2.1,fun h=>by have:=hb.1;have:=hb.2.2;omega,hb.1,by have:=hb.2.1;omega,hb.2.2⟩) (VV (AA.mono (AA.grew HK46.out HG7.out) fun i _ h=> .inl h) HK8.out fun i _ h=> .inr h) _ _ HRD.out
     ·exact AZ.keep (S:=fun i=>i=z) (fun b hb=>⟨hb.2,fun h=>by have:=hb.1;omega,by have:=hb.1;omega,by have:=hb.2;omega,by have:=hb.1;omega⟩) (VV (Vb (HG6.out.trans HG7.out)) HK8.out fun i _ h=>h) _ _ HR5.out.1
     exact⟨by omega,by have:=HBK.out.lt;omega,by omega⟩
    case measure=>
     rw[Dd ((HP6.out.grew HG7.out).keep HK8.out (fun i hi e=>by have:=HZ.out;omega)),Dd HP.out];have:=HPL.out;simp only[List.length_cons];omega
  rw[VN (by rw[h0])]at hlp;obtain⟨t,us0,rfl⟩:=Dk h0;rw[List.tail_cons]at hlp;cases hpp:CE k2 2 us0 with
  |none=>rw[hpp]at hlp;cases hlp
  |some p=>
   obtain⟨er,us2⟩:=p;rw[hpp]at hlp;dsimp only at hlp;have HLP2:=V3 hlp;have HPL:=V3 (Hs hpp);rw[h0]at HIs;have HTy:=V3 (Eu wr g n t us0 ⟨#[42]⟩ HP.out h0);have HC2:=V3 (fun w' (h:DB w' g n us0) ht=>HI.out k2 (by have:=HK.out;omega) us0 er us2 hpp w' h ht);clear hlp hpp h0;go_upto_region 7 with(first|(go_at_call 143;(with_reducible refine HIs.out.mono ?_);rintro e3 w9 ⟨rfl,rfl⟩)|(go_at_call 144;(with_reducible refine HTy.out.mono ?_);rintro e3 w4 ⟨rfl,hp4,hk4⟩;have HR4:=V3 (V5 hp4 hk4);clear hp4 hk4));clear HTy HIs;go_upto_region 8 with(first|(go_at_call 145;(with_reducible refine(HC2.out _ HR4.out.1 (HTR.out.keep HLow.out HR4.out.2 (fun i hi e=>by omega))).mono ?_);rintro e3 w5 ⟨cs2,rfl,hr5,hp5,hk5⟩;have h2l:=CN hr5;have h2o:=Ap hr5;have HR5:=V3 (V5 hr5 (V5 hp5 (V5 hk5 h2l)));clear hr5 hp5 hk5)|((with_reducible refine AG 29 (.tmp 9) (.tmp 29) rfl ?_);refine BL 29 (.tmp 9) (.tmp 29) w5.heap.size cs2 (AJ 0 0) 29 (by rw[h2l];exact AE) (by rw[h2l];rfl) h2o rfl rfl rfl rfl (VW w5 29 _) ?_;intro w6 hb6 k6 d6;have HG6:=V3 (show A4 w5 w6 from VV ((VU w5).alloc _) k6 (fun i hi e=>by omega));clear k6 d6 h2o h2l));clear HC2;have HB6:=V3 hb6;have k46:AA (fun i=>i=g) wr w6:=AA.grew (VV HR4.out.2 HR5.out.2.2.1 fun i _ h=>h) HG6.out;have hbz6:=HBZ.out.keep k46 (by have:=HZ.out;omega);have HBZ6:=V3 hbz6;have HK46:=V3 k46;have hp6:=HR5.out.2.1.grew HG6.out;have HP6:=V3 hp6;obtain⟨va1,va2,va3,hca, -⟩:=HRD.out.open_;obtain⟨vb1,vb2,vb3,hcb, -⟩:=HR5.out.1.open_;have HCA:=V3 hca;have HCB:=V3 hcb;clear k46 hbz hca hcb hp6;go_wp2_with(first|((with_reducible refine AF 29 (.tmp 7) rfl ?_);refine BZ 29 Tryz.underlying29 rfl (.tmp 7) z cs 29 (by rw[HCL.out.1];exact AE) rfl rfl rfl hbz6 ?_)|((with_reducible refine AF 29 (.tmp 9) rfl ?_);refine BZ 29 Tryz.underlying29 rfl (.tmp 9) w5.heap.size cs2 29 (by rw[HR5.out.2.2.2];exact AE) rfl rfl rfl hb6 ?_)|((with_reducible refine En 27 2 #[(0,.tmp 31),(1,.tmp 32)] rfl ?_);refine Dz rfl (.tmp 31) (.tmp 32) rfl (by rw[←HCA.out];rfl) (by rw[←HCB.out];rfl) ?_;intro w7 hbk g7;have hbz7:=hbz6.grew g7;have HBK:=V3 hbk;have HG7:=V3 g7;clear hbk g7)|((with_reducible refine AG 29 (.tmp 7) (.tmp 34) rfl ?_);refine BL 29 (.tmp 7) (.tmp 34) z (Gm 2 w6.heap.size) cs 29 AE (by rw[HCL.out.1];rfl) (Ew _ _) rfl rfl rfl rfl hbz7 ?_;intro w8 hb8 k8 d8;have HB8:=V3 hb8;have HK8:=V3 k8;clear hb8 k8 d8));have HKZ:=V3 (V5 HK8.out.size HG7.out.size);dsimp only[Act.put];go_roundw
   case rel=>
    have hz:=HZ.out;have hs46:=HK46.out.size;have hkz:=HKZ.out;have hw5:=HG6.out.size;have hw4:=HR5.out.2.2.1.size;have hw3:=HR4.out.2.size;have hbk:=HBK.out;rw[←HCA.out,←HCB.out]at hbk;have hM:=HKP.out.size;refine⟨k2,Ax 2 left er,Gm 2 w6.heap.size,us2,by have:=HK.out;omega,HLP2.out,(HP6.out.grew HG7.out).keep HK8.out (fun i hi e=>by omega),HB8.out,?_,VV (VV HKP.out (AA.grew HK46.out HG7.out) fun i hi e=> .inl e) HK8.out fun i hi e=> .inr e⟩;refine Fq ?_ ?_ ?_ (hbk.keep HK8.out (by omega)) HCL.out.1 HR5.out.2.2.2
    ·exact AZ.keep (S:=fun i=>i=g∨i=z) (fun b hb=>⟨hb.2.1,fun h=>by have:=hb.1;have:=hb.2.2;omega,hb.1,by have:=hb.2.1;omega,hb.2.2⟩) (VV (AA.mono (AA.grew HK46.out HG7.out) fun i _ h=> .inl h) HK8.out fun i _ h=> .inr h) _ _ HRD.out
    ·exact AZ.keep (S:=fun i=>i=z) (fun b hb=>⟨hb.2,fun h=>by have:=hb.1;omega,by have:=hb.1;omega,by have:=hb.2;omega,by have:=hb.1;omega⟩) (VV (Vb (HG6.out.trans HG7.out)) HK8.out fun i _ h=>h) _ _ HR5.out.1
    exact⟨by omega,by have:=HBK.out.lt;omega,by omega⟩
   case measure=>
    rw[Dd ((HP6.out.grew HG7.out).keep HK8.out (fun i hi e=>by have:=HZ.out;omega)),Dd HP.out];have:=HPL.out;simp only[List.length_cons];omega
end Go.Proofs.YthpflelgbadkcaaGreatDoor
namespace Go.Proofs.YthpflelgbadkcaaGreatDoor
open Go.ChangeShapes Go.WideShapes Go.ChangeAt Go.RowKit Pl
theorem PP:Tryz.prog.cellsOf 9=1:=by kernel_rfl
def FO (ss:List (List UInt8)):DataW Unit:= .agg (ss.map fun s=> .lit (.string s))
theorem K3 {w:World} {sp:Nat→Bool} {held:Bool} {fuel:Nat} {t:TypeId} {n:Nat} {cs:List Value} {ss:List (List UInt8)} {p:List MemPlace}
  (ht:Tryz.prog.underlying t=some (.array n 9)) (hct:Tryz.prog.cellsOf t=n)
  (h:DataW.trod (fun _=>()) Tryz.prog w 0 sp held fuel t cs=some (FO ss,p)):cs=ss.map fun s=>Value.string ⟨s.toArray⟩:=by
 cases fuel with
 |zero=>simp[DataW.trod]at h
 |succ fuel=>
  simp only[DataW.trod,ht,PP,hct,Nat.mul_one]at h;split at h
  ·rename_i hl
   obtain⟨xs,hm,hx⟩:=Option.map_eq_some_iff.1 h;have hxs:xs.map (·.1)=ss.map fun s=>(DataW.lit (.string s):DataW Unit):=by
    have:=congrArg Prod.fst hx;simpa[FO]using this
   have hxl:xs.length=n:=by simpa using Lib.mapM_length hm
   have hzl:ss.length=n:=by
    have:=congrArg List.length hxs;simp at this;omega
   apply List.ext_getElem?;intro i;by_cases hi:i<n
   ·obtain⟨b,hb,hf⟩:=Lib.mapM_at hm i i (by simp[hi]);obtain⟨s,hc,rfl,_⟩:=DataW.trod_string Tryz.underlying9 hf;have h1:cs[i]? =some (.string s):=by
     have:=congrArg (·[0]?) hc;simpa[List.getElem?_take,List.getElem?_drop]using this
    have h2:(xs.map (·.1))[i]? =some (DataW.lit (.string s.data.toList):DataW Unit):=by simp[hb]
    rw[hxs]at h2;simp only[List.getElem?_map,Option.map_eq_some_iff,DataW.lit.injEq,Lit.string.injEq]at h2;obtain⟨z',hz',hzz⟩:=h2;rw[h1,List.getElem?_map,hz',hzz];rfl
   rw[List.getElem?_eq_none (by omega),List.getElem?_eq_none (by simp;omega)]
  cases h
theorem MB {w:World}:∀{l:List (String×DataW Unit)} {ps:List MemPlace},DataW.LaidVars Tryz.prog w l ps→∀{x:String×DataW Unit},x∈l→
  ∃g t cs fuel p,Tryz.prog.globalNamed x.1=some g∧(Tryz.prog.globals[g]?).map (·.type)=some t∧w.var? Tryz.prog x.1=some cs∧DataW.trod (fun _=>()) Tryz.prog w 0 (fun _=>true) false fuel t cs.toList=some (x.2,p)
 |[],_,_,_,hx=>nomatch hx
 |(n,d)::r,_,h,x,hx=>by
  obtain⟨g,t,cs,fuel,p,q,e1,e2,e3,e4,hr, -⟩:=h;rcases List.mem_cons.1 hx with rfl|hx
  ·exact⟨g,t,cs,fuel,p,e1,e2,e3,e4⟩
  exact MB hr hx
theorem FM {W:World} {l:List (String×DataW Unit)} (h:laidMet Tryz.prog l W) {name:String} {g:Nat} {t:TypeId} {n:Nat} {ss:List (List UInt8)} (hm:(name,FO ss)∈l)
  (hg:Tryz.prog.globalNamed name=some g) (hty:(Tryz.prog.globals[g]?).map (·.type)=some t) (ht:Tryz.prog.underlying t=some (.array n 9)) (hct:Tryz.prog.cellsOf t=n) (h0:0<ss.length):
  g<W.heap.size∧∀j s,(ss.map fun s=>(⟨s.toArray⟩:ByteArray))[j]? =some s→W.cell? ⟨g,j,none⟩=some (.string s):=by
 obtain⟨ps,hv, -⟩:=h;obtain⟨g',t',cs,fuel,p,hg',ht',hvar,hd⟩:=MB hv hm;obtain rfl:=VE (hg.symm.trans hg');obtain rfl:=VE (hty.symm.trans ht');have hc:=K3 ht hct hd;have hcell:∀j s,(ss.map fun s=>(⟨s.toArray⟩:ByteArray))[j]? =some s→W.cell? ⟨g,j,none⟩=some (.string s):=fun j s hj=>by
  rw[World.var?_cell hg hvar,←Array.getElem?_toList,hc];rw[List.getElem?_map]at hj ⊢;obtain⟨x,hx,rfl⟩:=Option.map_eq_some_iff.1 hj;rw[hx];rfl
 refine⟨?_,hcell⟩;have hj0:(ss.map fun s=>(⟨s.toArray⟩:ByteArray))[0]? =some ⟨(ss[0]'h0).toArray⟩:=by rw[List.getElem?_map,VB h0];rfl
 exact Nu (hcell 0 _ hj0)
def Uq:List (List UInt8):=[[115,117,109],[109,105,110],[109,97,120],[99,111,117,110,116],[107,116,104]]
def Uv:List (List UInt8):=[[108,97,115,116],[108,101,97,115,116],[103,114,101,97,116,101,115,116],[116,111,116,97,108],[109,101,97,110],[105,110,99,114,101,97,115,101],[114,97,116,101],[107,116,104]]
def UJ:List (List UInt8):=[[43],[45],[42],[47]]
def U8:List (List UInt8):=[[61],[33,61],[94,61]]
theorem Q4 {W:World} {l:List (String×DataW Unit)} (h:laidMet Tryz.prog l W) (h1:("intervalmon/parser.groupWords",FO Uq)∈l) (h2:("intervalmon/parser.functionWords",FO Uv)∈l) (h3:("intervalmon/parser.operators",FO UJ)∈l) (h4:("intervalmon/parser.matchSymbols",FO U8)∈l):Cy W:=by
 refine⟨?_,?_,?_⟩
 ·exact FM h h1 (g:=0) (by kernel_rfl) (t:=141) (by kernel_rfl) Tryz.underlying141 (by kernel_rfl) (by decide)
 ·exact FM h h2 (g:=5) (by kernel_rfl) (t:=204) (by kernel_rfl) Tryz.underlying204 (by kernel_rfl) (by decide)
 have h5:=FM h h3 (g:=1) (by kernel_rfl) (t:=192) (by kernel_rfl) Tryz.underlying192 (by kernel_rfl) (by decide);exact⟨h5.1,h5.2,FM h h4 (g:=4) (by kernel_rfl) (t:=203) (by kernel_rfl) Tryz.underlying203 (by kernel_rfl) (by decide)⟩
def E2:DataW Unit→Array Value
 | .agg ps=>(ps.map fun d=>match d with
  | .lit l=>l.value
  |_=>undef).toArray
 |_=>#[]
noncomputable def GU (os:Os):World:=
 { World.holding Tryz.prog os ⟨#[],#[],[]⟩with heap:=((((((((World.holding Tryz.prog os ⟨#[],#[],[]⟩).heap.modify 8 (JS (E2 Rows.laid_math_bits_deBruijn32tab))).modify 9 (JS (E2 Rows.laid_math_bits_deBruijn64tab))).modify 7 (JS (E2 Rows.laid_internal_strconv_uint64pow10))).modify 0 (JS (E2 Rows.laid_intervalmon_parser_groupWords))).modify 5 (JS (E2 Rows.laid_intervalmon_parser_functionWords))).modify 4 (JS (E2 Rows.laid_intervalmon_parser_matchSymbols))).modify 1 (JS (E2 Rows.laid_intervalmon_parser_operators))) }
end Go.Proofs.YthpflelgbadkcaaGreatDoor
