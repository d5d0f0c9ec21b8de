/- The law RewriteSize, walked: it returns true and leaves what was there. -/
import Derived.Test.YthpflelgbadkcaaGreatDoorRewriteSizeP01
import Derived.Test.YthpflelgbadkcaaGreatDoorRewriteSizeP40
import Derived.Test.YthpflelgbadkcaaGreatDoorRewriteSizeP45
import Derived.Test.YthpflelgbadkcaaGreatDoorRewriteSizeP19
import Derived.Test.YthpflelgbadkcaaGreatDoorRewriteSizeP37
import Derived.Test.YthpflelgbadkcaaGreatDoorRewriteSizeP47
set_option maxRecDepth 100000
set_option maxHeartbeats 12800000
set_option linter.unusedVariables false
set_option linter.unusedSimpArgs false
namespace Go.Proofs.YthpflelgbadkcaaGreatDoor
open Go.RowKit Pl
theorem Ho {e:Ex} (h:Cm e):EH e:=BL.mono (fun _ h=>⟨⟨h.1.1,EA (Ci h.2)⟩,LL h.1 h.2,SH h.1.2.2.2.2.1 (by decide),SH h.1.2.2.2.2.2 (by decide)⟩) (AL e) e (SD _) h
theorem Cy {e:Ex} (h:Cm e):BL Be e:=BL.mono (fun _ h=>h.1) (AL e) e (SD _) h
theorem GG {e:Ex} (h:Cm e):E8 e:=EH.tidy (AL e) e (SD _) (Ho h)
theorem JD {e:Ex} (h:Cm e) (hn:AL e≤200) (hd:BF e≤12):Ca e=0:=by
 unfold Ca;rw[SQ (by omega),(Eh _ e (SD _)).2 (BL.mono (fun _ h=>h.2) (AL e) e (SD _) h)]
mutual
theorem KF:∀e:Ex,Bp (Hv e)=GF Fl e
 | .mk k f w o q n d nm ms bs ks=>by
  unfold Hv Bp GF;rw[Kr ks];rfl
theorem Kr:∀es:List Ex,BO (E0 es)=Fe Fl es
 |[]=>by unfold E0 BO Fe;rfl
 |e::es=>by
  unfold E0 BO Fe;rw[KF e,Kr es]
end
def Tr (z:Nat) (t:Ex) (cs:List Value) (wf:World):Prop:=(D5 wf∧Dc wf)∧BZ wf wf.heap.size t cs∧Ag wf z 29 cs.toArray∧Cm t∧AL t≤21∧BF t≤12
section
variable {z:Nat} {t:Ex} {cs:List Value} {wf w':World}
theorem Tr.grew (h:Tr z t cs wf) (g:A5 wf w'):Tr z t cs w':=⟨⟨h.1.1.grew g,h.1.2.keep g (fun h=>h)⟩,h.2.1.grew g,h.2.2.1.grew g,h.2.2.2⟩
theorem Tr.row (h:Tr z t cs wf):wf.rangeAt z 0 cs:=h.2.2.1.rangeN 0 _ (by simp)
theorem Tr.len (h:Tr z t cs wf):cs.length=11:=BX h.2.1
theorem Tr.good (h:Tr z t cs wf):Cm t:=h.2.2.2.1
theorem Tr.small (h:Tr z t cs wf):AL t≤1000000:=SH h.2.2.2.2.1 (by decide)
theorem Tr.valid (h:Tr z t cs wf):Ca t=0:=JD h.good (SH h.2.2.2.2.1 (by decide)) h.2.2.2.2.2
theorem Tr.pv (h:Tr z t cs wf):Calls Tryz.prog 12 #[.agg cs.toArray] wf fun e' w'=>e'= .returned (.int .i64 0)∧A5 wf w':=by
 have:=Ek t h.small (Cy h.good) wf cs h.1.1 h.2.1;rw[h.valid]at this;exact this
theorem Tr.rw_ (h:Tr z t cs wf):Calls Tryz.prog 8 #[.agg cs.toArray] wf fun e' w'=>∃c,e'= .returned (.agg c.toArray)∧BZ w' w'.heap.size (Ah t) c∧A5 wf w':=
 (Md t h.small (Cy h.good) (Ho h.good) h.valid (Cy (FU _ t (SD _) h.good).1) wf cs h.1.1 h.1.2 h.2.1).mono fun e' w' ⟨c,he,hr,g⟩=>⟨c,he,AW.toB (fun b hb=>hb.2) _ _ hr,g⟩
theorem Tr.pf (h:Tr z t cs wf):Calls Tryz.prog 9 #[.agg cs.toArray] wf fun e' w'=>∃c,e'= .returned (.agg c.toArray)∧BZ w' w'.heap.size (Aq t) c∧A5 wf w':=by
 have hf:Ir t=Aq t:=by unfold Ir;rw[SR h.valid]
 have:=NA t h.small (Cy h.good) wf cs h.1.1 h.2.1;rw[hf]at this;exact this.mono fun e' w' ⟨c,he,hr,g⟩=>⟨c,he,AW.toB (fun b hb=>hb.2) _ _ hr,g⟩
theorem Tr.sz (h:Tr z t cs wf):Calls Tryz.prog 10 #[.agg cs.toArray] wf fun e' w'=>e'= .returned (.int .i64 (GF Fl t:Nat))∧A5 wf w':=by
 have:=He (CS (Hv t)) (Hv t) (SD _) (by rw[G5];exact h.small) wf cs (DZ.of h.2.1);rw[KF]at this;exact this
theorem Tr.rsz (h:Tr z t cs wf):Calls Tryz.prog 11 #[.agg cs.toArray] wf fun e' w'=>e'= .returned (.int .i64 (GF Fl t:Nat))∧A5 wf w':=by
 have:=H9 (CS (Hv t)) (Hv t) (SD _) (by rw[G5];exact h.small) wf cs (DZ.of h.2.1);rw[KF]at this;exact this
theorem Tr.nd (h:Tr z t cs wf):Calls Tryz.prog 14 #[.agg cs.toArray] wf fun e' w'=>e'= .returned (.int .i64 (AL t:Nat))∧A5 wf w':=Ip (AL t) t (SD _) h.small wf cs h.2.1
theorem Tr.dp (h:Tr z t cs wf):Calls Tryz.prog 15 #[.agg cs.toArray] wf fun e' w'=>e'= .returned (.int .i64 (BF t:Nat))∧A5 wf w':=IL (AL t) t (SD _) h.small wf cs h.2.1
theorem Tr.eq (h:Tr z t cs wf) {c:List Value} (hc:BZ wf wf.heap.size t c):Calls Tryz.prog 13 #[.agg c.toArray,.agg cs.toArray] wf fun e' w'=>e'= .returned (.bool true)∧A5 wf w':=by
 have:=KK 1000000 t t h.small h.small (SD _) (GG h.good) (GG h.good) wf c cs hc h.2.1;rw[Ky]at this;exact this
end
def O8 (z:Nat) (t:Sh) (cs:List Value) (wf:World):Prop:=DZ wf t cs∧Ag wf z 29 cs.toArray∧CS t≤64
theorem K6 {w:World} {Q:Nat→Prop} {t:Sh} {cs:List Value} (h:C5 w Q t cs):cs.length=11:=by
 obtain⟨c1,c2,c3,c4,c5,c6,c7,c8,c9,vk,rfl, -⟩:=h.open_;rfl
section
variable {z:Nat} {t:Sh} {cs:List Value} {wf w':World}
theorem O8.grew (h:O8 z t cs wf) (g:A5 wf w'):O8 z t cs w':=⟨h.1.grew g,h.2.1.grew g,h.2.2⟩
theorem O8.row (h:O8 z t cs wf):wf.rangeAt z 0 cs:=h.2.1.rangeN 0 _ (by simp)
theorem O8.len (h:O8 z t cs wf):cs.length=11:=K6 h.1
theorem O8.sz (h:O8 z t cs wf):Calls Tryz.prog 10 #[.agg cs.toArray] wf fun e' w'=>e'= .returned (.int .i64 (Bp t:Nat))∧A5 wf w':=He (CS t) t (SD _) (SH h.2.2 (by decide)) wf cs h.1
theorem O8.rsz (h:O8 z t cs wf):Calls Tryz.prog 11 #[.agg cs.toArray] wf fun e' w'=>e'= .returned (.int .i64 (Bp t:Nat))∧A5 wf w':=H9 (CS t) t (SD _) (SH h.2.2 (by decide)) wf cs h.1
end
theorem O6 (w:World) (v:Value) (l:List Int) (tv:List Value) (s:Sh) (hr:Rd w w.heap.size v (l.map vi)) (hl:∀x∈l,Bc x) (hll:l.length≤1000000000000000) (hs:C5 w (fun b=>b<w.heap.size) s tv) (ht:D0 w):
  Calls Tryz.prog 3 #[v,.agg tv.toArray] w fun e w'=>e= .returned (.bool true)∧A5 w w':=by
 obtain⟨A,n,cp,rfl,hn,hcp⟩:=hr.form;have HQ:=S9 (fun w' (g:A5 w w')=>NS w' _ l ((hr.grew (SD _) g).more g.size) hl hll);have HC:=S9 (fun w' (g:A5 w w')=>Mm 3 s 4 rfl (by decide) w' w.heap.size tv g.size (C5.keep (S:=fun _=>False) (fun b hb=>⟨hb,fun h=>h,hb⟩) g s tv hs));have HT:=S9 ht;have htl:=K6 hs;have hto:=CT hs;have hb0:=Sc w 29 tv.toArray;have hg0:=(Sa w).alloc (.cells tv.toArray 29);clear hr hl hll ht hn hcp hs;go_enter Tryz.func3,Tryz.ntmps3;go_upto_region 1 with fail;change Code.wp _ _ _ _ (w.alloc (.cells tv.toArray 29));generalize w.alloc (.cells tv.toArray 29)=w0 at*;have HG0:=S9 hg0;clear hg0;go_upto_region 2 with(first|((with_reducible refine AG 29 (.tmp 3) rfl ?_);refine BR 29 Tryz.underlying29 rfl (.tmp 3) (w.heap.size) tv 29 (by rw[htl];exact AD) rfl rfl rfl hb0 ?_)|(go_at_call 6;(with_reducible refine(HC.out _ HG0.out).mono ?_);rintro e3 wa ⟨cs0,rfl,h0,ka⟩;have h0l:=K6 h0;have h0o:=CT h0)|((with_reducible refine AF 29 (.tmp 5) (.tmp 10) rfl ?_);refine Ar 29 (.tmp 5) (.tmp 10) (wa.heap.size) cs0 (AH 0 0) 29 (by rw[h0l];exact AD) (by rw[h0l];rfl) h0o rfl rfl rfl rfl (Sc wa 29 _) ?_;intro wb b0 k0 d0;have g0:A5 wa wb:=Sb ((Sa wa).alloc _) k0 (fun i hi e=>by omega)));have HT0:=S9 (show O8 wa.heap.size (cutS 3 s) cs0 wb from⟨C5.keep (S:=fun _=>False) (fun b hb=>⟨hb.2,fun h=>h,SE hb.2 g0.size⟩) g0 _ _ h0,b0,SH (Jn 3 s) (by decide)⟩);have HG1:=S9 ((HG0.out.trans ka).trans g0);clear h0 h0l h0o ka b0 k0 d0 g0 hb0 htl hto;go_upto_region 3 with(first|(go_at_call 7;(with_reducible refine(HQ.out _ HG1.out).mono ?_);rintro e3 wc ⟨t1,cs1,rfl,h1,ok1,kc⟩;have h1l:=h1.loose.len;have h1o:=Al h1.loose)|((with_reducible refine AF 29 (.tmp 6) (.tmp 12) rfl ?_);refine Ar 29 (.tmp 6) (.tmp 12) (wc.heap.size) cs1 (AH 0 0) 29 (by rw[h1l];exact AD) (by rw[h1l];rfl) h1o rfl rfl rfl rfl (Sc wc 29 _) ?_;intro wd b1 k1 d1;have g1:A5 wc wd:=Sb ((Sa wc).alloc _) k1 (fun i hi e=>by omega)));have HG2:=S9 ((HG1.out.trans kc).trans g1);have HT1:=S9 (show Tr wc.heap.size t1 cs1 wd from⟨⟨HT.out.1.grew HG2.out,HT.out.2.2.keep HG2.out (fun h=>h)⟩,AW.toB (B:=wd.heap.size) (Q:=CW 0 wb.heap.size wc.heap.size) (fun b hb=>SE hb.2 g1.size) _ _ (h1.loose.grewQ (fun b hb=>hb.2) g1),b1,ok1.2.2,ok1.1,SH ok1.2.1 (by decide)⟩);have HT0b:=S9 (HT0.out.grew (kc.trans g1));have hb1:=b1;clear h1 h1o ok1 kc b1 k1 d1 g1;have HR1:=S9 HT1.out.rw_;go_upto_region 4 with(first|((with_reducible refine AG 29 (.tmp 6) rfl ?_);refine BR 29 Tryz.underlying29 rfl (.tmp 6) (wc.heap.size) cs1 29 (by rw[h1l];exact AD) rfl rfl rfl hb1 ?_)|(go_at_call 8;(with_reducible refine HR1.out.mono ?_);rintro e3 we ⟨cs2,rfl,h2,ke⟩;have h2l:=BX h2;have h2o:=Al (BZ.toQ (Q:=fun _=>True) (fun _ _=>trivial) _ _ h2))|((with_reducible refine AF 29 (.tmp 7) (.tmp 14) rfl ?_);refine Ar 29 (.tmp 7) (.tmp 14) (we.heap.size) cs2 (AH 0 0) 29 (by rw[h2l];exact AD) (by rw[h2l];rfl) h2o rfl rfl rfl rfl (Sc we 29 _) ?_;intro wf b2 k2 d2;have g2:A5 we wf:=Sb ((Sa we).alloc _) k2 (fun i hi e=>by omega)));have HS1:=S9 (FU (AL t1) t1 (SD _) HT1.out.good);have HG3:=S9 ((HG2.out.trans ke).trans g2);have HT2:=S9 (show Tr we.heap.size (Ah t1) cs2 wf from⟨⟨HT.out.1.grew HG3.out,HT.out.2.2.keep HG3.out (fun h=>h)⟩,h2.grew g2,b2,HS1.out.1,SH HS1.out.2.1.1 HT1.out.2.2.2.2.1,SH HS1.out.2.1.2.1 HT1.out.2.2.2.2.2⟩);have HT1b:=S9 (HT1.out.grew (ke.trans g2));have HT0c:=S9 (HT0b.out.grew (ke.trans g2));have hb1:=HT1b.out.2.2.1;have HF1:=S9 HT1b.out.pf;clear h2 h2o h2l ke b2 k2 d2 g2 HR1;go_upto_region 5 with(first|((with_reducible refine AG 29 (.tmp 6) rfl ?_);refine BR 29 Tryz.underlying29 rfl (.tmp 6) (wc.heap.size) cs1 29 (by rw[h1l];exact AD) rfl rfl rfl hb1 ?_)|(go_at_call 9;(with_reducible refine HF1.out.mono ?_);rintro e3 wg ⟨cs3,rfl,h3,kg⟩;have h3l:=BX h3;have h3o:=Al (BZ.toQ (Q:=fun _=>True) (fun _ _=>trivial) _ _ h3))|((with_reducible refine AF 29 (.tmp 8) (.tmp 16) rfl ?_);refine Ar 29 (.tmp 8) (.tmp 16) (wg.heap.size) cs3 (AH 0 0) 29 (by rw[h3l];exact AD) (by rw[h3l];rfl) h3o rfl rfl rfl rfl (Sc wg 29 _) ?_;intro wh b3 k3 d3;have g3:A5 wg wh:=Sb ((Sa wg).alloc _) k3 (fun i hi e=>by omega)));have HS2:=S9 (IV (AL t1) t1 (SD _) HT1.out.good);have HG4:=S9 ((HG3.out.trans kg).trans g3);have hT3:Tr wg.heap.size (Aq t1) cs3 wh:=⟨⟨HT.out.1.grew HG4.out,HT.out.2.2.keep HG4.out (fun h=>h)⟩,h3.grew g3,b3,HS2.out.1,SH HS2.out.2.1.1 HT1.out.2.2.2.2.1,SH HS2.out.2.1.2.1 HT1.out.2.2.2.2.2⟩;have hT2:=HT2.out.grew (kg.trans g3);have hT1:=HT1b.out.grew (kg.trans g3);have hT0:=HT0c.out.grew (kg.trans g3);have hTT:=HT.out;have hGG:=HG4.out;have HL:=S9 (fun w' (g:A5 wh w')=>Kq w' ⟨hTT.1.grew (hGG.trans g),hTT.2.1.keep (hGG.trans g) (fun h=>h),hTT.2.2.keep (hGG.trans g) (fun h=>h)⟩);have HX2:=S9 (MK HT1.out.good);have HX3:=S9 (MH HT1.out.good);have l1:=HS1.out.2.1.1;have l2:=HS1.out.2.1.2.1;have l3:=HS1.out.2.1.2.2 Fl JV;have l4:=HS2.out.2.2.2 Fl JV;clear HT0 HT0b HT0c HT1 HT1b HT2 HF1 HS1 HS2 HT HQ HC HG0 HG1 HG2 HG3 HG4 hTT h3 h3o h3l kg b3 k3 d3 g3 hb1 h1l;have HT0:=S9 hT0;have HT1:=S9 hT1;have HT2:=S9 hT2;have HT3:=S9 hT3;have HG:=S9 hGG;clear hT0 hT1 hT2 hT3 hGG;generalize Ah t1=t2 at*;generalize Aq t1=t3 at*;generalize cutS 3 s=tc at*;obtain⟨N0,hN0⟩:∃N,Bp tc=N:=⟨_,rfl⟩;obtain⟨N1,hN1⟩:∃N,GF Fl t1=N:=⟨_,rfl⟩;obtain⟨N2,hN2⟩:∃N,GF Fl t2=N:=⟨_,rfl⟩;obtain⟨M1,hM1⟩:∃N,AL t1=N:=⟨_,rfl⟩;obtain⟨M2,hM2⟩:∃N,AL t2=N:=⟨_,rfl⟩;obtain⟨D1,hD1⟩:∃N,BF t1=N:=⟨_,rfl⟩;obtain⟨D2,hD2⟩:∃N,BF t2=N:=⟨_,rfl⟩;have q1:decide (M2≤M1)=true:=by rw[decide_eq_true_iff];omega
 have q2:decide (D2≤D1)=true:=by rw[decide_eq_true_iff];omega
 have q3:decide (N2≤N1)=true:=by rw[decide_eq_true_iff];omega
 have HC0:=S9 (fun w' (g:A5 wh w')=>by have:=(HT0.out.grew g).sz;rw[hN0]at this;exact this);have HC0r:=S9 (fun w' (g:A5 wh w')=>by have:=(HT0.out.grew g).rsz;rw[hN0]at this;exact this);have HC1:=S9 (fun w' (g:A5 wh w')=>by have:=(HT1.out.grew g).sz;rw[hN1]at this;exact this);have HC1r:=S9 (fun w' (g:A5 wh w')=>by have:=(HT1.out.grew g).rsz;rw[hN1]at this;exact this);have HC2:=S9 (fun w' (g:A5 wh w')=>by have:=(HT2.out.grew g).sz;rw[hN2]at this;exact this);have HC3:=S9 (fun w' (g:A5 wh w')=>by have:=(HT3.out.grew g).sz;rw[l4,hN1]at this;exact this);have HN1:=S9 (fun w' (g:A5 wh w')=>by have:=(HT1.out.grew g).nd;rw[hM1]at this;exact this);have HN2:=S9 (fun w' (g:A5 wh w')=>by have:=(HT2.out.grew g).nd;rw[hM2]at this;exact this);have HD1:=S9 (fun w' (g:A5 wh w')=>by have:=(HT1.out.grew g).dp;rw[hD1]at this;exact this);have HD2:=S9 (fun w' (g:A5 wh w')=>by have:=(HT2.out.grew g).dp;rw[hD2]at this;exact this);have HV2:=S9 (fun w' (g:A5 wh w')=>(HT2.out.grew g).pv);have HV3:=S9 (fun w' (g:A5 wh w')=>(HT3.out.grew g).pv);have HR2:=S9 (fun w' (g:A5 wh w')=>by have:=(HT2.out.grew g).rw_;rw[HX2.out]at this;exact this);have HF3:=S9 (fun w' (g:A5 wh w')=>by have:=(HT3.out.grew g).pf;rw[HX3.out]at this;exact this);clear l1 l2 l3 l4 hN0 hN1 hN2 hM1 hM2 hD1 hD2 HX2 HX3;generalize wa.heap.size=z0 at*;generalize wc.heap.size=z1 at*;generalize we.heap.size=z2 at*;generalize wg.heap.size=z3 at*;dsimp only[Act.put];refine B8 [(11,fun w'=>A5 wh.drew w')] (by kernel_rfl) (by intro pp hp;obtain rfl:=SJ.1 hp;exact Sa _) ?_;intro hcl hkn;have gd:A5 wh wh.drew:=Sd (Sa wh);have p0:A5 wh.drew wh.drew:=Sa _;refine BP [5,4,1] 11 _ (i:=0) rfl (by kernel_rfl) (by kernel_rfl) (by kernel_rfl) hcl hkn (by rfl) 0 rfl (by kernel_rfl) 29 (.tmp 5) rfl z0 0 rfl cs0 _ (fun w' h=>(HT0.out.grew (gd.trans h)).row) Tryz.underlying29 rfl (by rw[HT0.out.len];exact AD) (fun _ _ _ h=>h) (by kernel_rfl) ?_;clear hcl hkn;intro hcl hkn
 try simp only[List.getElem_toArray,List.getElem_cons_zero,List.getElem_cons_succ,Act.put,List.setIfInBounds_toArray,List.set_cons_zero,List.set_cons_succ]
 refine BP [5,4,3] 11 _ (i:=2) rfl (by kernel_rfl) (by kernel_rfl) (by kernel_rfl) hcl hkn (by rfl) 0 rfl (by kernel_rfl) 29 (.tmp 5) rfl z0 0 rfl cs0 _ (fun w' h=>(HT0.out.grew (gd.trans h)).row) Tryz.underlying29 rfl (by rw[HT0.out.len];exact AD) (fun _ _ _ h=>h) (by kernel_rfl) ?_;clear hcl hkn;intro hcl hkn
 try simp only[List.getElem_toArray,List.getElem_cons_zero,List.getElem_cons_succ,Act.put,List.setIfInBounds_toArray,List.set_cons_zero,List.set_cons_succ]
 refine AZ hcl (i:=1) (by kernel_rfl) rfl (by kernel_rfl) (fun K hK=>?_);go_simp;(with_reducible refine(HC0.out _ (gd.trans p0)).mono ?_);rintro e3 v1 ⟨rfl,q1v⟩;have p1:=p0.trans q1v;refine hK _ _ (AJ (.inr p1)) ?_;clear hK K;clear hcl hkn;intro hcl hkn
 try simp only[List.getElem_toArray,List.getElem_cons_zero,List.getElem_cons_succ,Act.put,List.setIfInBounds_toArray,List.set_cons_zero,List.set_cons_succ]
 refine AZ hcl (i:=3) (by kernel_rfl) rfl (by kernel_rfl) (fun K hK=>?_);go_simp;(with_reducible refine(HC0r.out _ (gd.trans p1)).mono ?_);rintro e3 v2 ⟨rfl,q2v⟩;have p2:=p1.trans q2v;refine hK _ _ (AJ (.inr p2)) ?_;clear hK K;clear hcl hkn;intro hcl hkn
 try simp only[List.getElem_toArray,List.getElem_cons_zero,List.getElem_cons_succ,Act.put,List.setIfInBounds_toArray,List.set_cons_zero,List.set_cons_succ]
 refine AZ hcl (i:=4) (by kernel_rfl) rfl (by kernel_rfl) (fun K hK=>?_);go_simp;refine hK _ _ (AJ (.inr p2)) ?_;clear hK K;clear hcl hkn;intro hcl hkn
 try simp only[List.getElem_toArray,List.getElem_cons_zero,List.getElem_cons_succ,Act.put,List.setIfInBounds_toArray,List.set_cons_zero,List.set_cons_succ]
 refine AZ hcl (i:=5) (by kernel_rfl) rfl (by kernel_rfl) (fun K hK=>?_);go_simp;refine hK _ _ (AJ (.inr p2)) ?_;clear hK K;clear hcl hkn;intro hcl hkn
 try simp only[List.getElem_toArray,List.getElem_cons_zero,List.getElem_cons_succ,Act.put,List.setIfInBounds_toArray,List.set_cons_zero,List.set_cons_succ]
 refine BP [10,7] 11 _ (i:=6) rfl (by kernel_rfl) (by kernel_rfl) (by kernel_rfl) hcl hkn (by rfl) 0 rfl (by kernel_rfl) 29 (.tmp 6) rfl z1 0 rfl cs1 _ (fun w' h=>(HT1.out.grew (gd.trans h)).row) Tryz.underlying29 rfl (by rw[HT1.out.len];exact AD) (fun _ _ _ h=>h) (by kernel_rfl) ?_;clear hcl hkn;intro hcl hkn
 try simp only[List.getElem_toArray,List.getElem_cons_zero,List.getElem_cons_succ,Act.put,List.setIfInBounds_toArray,List.set_cons_zero,List.set_cons_succ]
 refine BP [10,9] 11 _ (i:=8) rfl (by kernel_rfl) (by kernel_rfl) (by kernel_rfl) hcl hkn (by rfl) 0 rfl (by kernel_rfl) 29 (.tmp 6) rfl z1 0 rfl cs1 _ (fun w' h=>(HT1.out.grew (gd.trans h)).row) Tryz.underlying29 rfl (by rw[HT1.out.len];exact AD) (fun _ _ _ h=>h) (by kernel_rfl) ?_;clear hcl hkn;intro hcl hkn
 try simp only[List.getElem_toArray,List.getElem_cons_zero,List.getElem_cons_succ,Act.put,List.setIfInBounds_toArray,List.set_cons_zero,List.set_cons_succ]
 refine AZ hcl (i:=7) (by kernel_rfl) rfl (by kernel_rfl) (fun K hK=>?_);go_simp;(with_reducible refine(HC1.out _ (gd.trans p2)).mono ?_);rintro e3 v3 ⟨rfl,q3v⟩;have p3:=p2.trans q3v;refine hK _ _ (AJ (.inr p3)) ?_;clear hK K;clear hcl hkn;intro hcl hkn
 try simp only[List.getElem_toArray,List.getElem_cons_zero,List.getElem_cons_succ,Act.put,List.setIfInBounds_toArray,List.set_cons_zero,List.set_cons_succ]
 refine AZ hcl (i:=9) (by kernel_rfl) rfl (by kernel_rfl) (fun K hK=>?_);go_simp;(with_reducible refine(HC1r.out _ (gd.trans p3)).mono ?_);rintro e3 v4 ⟨rfl,q4v⟩;have p4:=p3.trans q4v;refine hK _ _ (AJ (.inr p4)) ?_;clear hK K;clear hcl hkn;intro hcl hkn
 try simp only[List.getElem_toArray,List.getElem_cons_zero,List.getElem_cons_succ,Act.put,List.setIfInBounds_toArray,List.set_cons_zero,List.set_cons_succ]
 refine AZ hcl (i:=10) (by kernel_rfl) rfl (by kernel_rfl) (fun K hK=>?_);go_simp;refine hK _ _ (AJ (.inr p4)) ?_;clear hK K;clear hcl hkn;intro hcl hkn
 try simp only[List.getElem_toArray,List.getElem_cons_zero,List.getElem_cons_succ,Act.put,List.setIfInBounds_toArray,List.set_cons_zero,List.set_cons_succ]
 refine AZ hcl (i:=11) (by kernel_rfl) rfl (by kernel_rfl) (fun K hK=>?_);go_simp;refine hK _ _ (AJ (.inl (by kernel_rfl))) ?_;clear hK K;clear hcl hkn;intro hcl hkn
 try simp only[List.getElem_toArray,List.getElem_cons_zero,List.getElem_cons_succ,Act.put,List.setIfInBounds_toArray,List.set_cons_zero,List.set_cons_succ]
 refine BK (by kernel_rfl) ?_ _;have HB:=S9 (gd.trans p4);clear hcl hkn gd p0 p1 q1v p2 q2v p3 q3v p4 q4v HC0 HC0r HC1r HT0;go_upto_region 7 with fail;refine B8 [(21,fun w'=>A5 v4.drew w')] (by kernel_rfl) (by intro pp hp;obtain rfl:=SJ.1 hp;exact Sa _) ?_;intro hcl hkn;have gd:A5 wh v4.drew:=HB.out.trans (Sd (Sa v4));have p0:A5 v4.drew v4.drew:=Sa _;refine BP [15,14,8,7,3,2,1] 21 _ (i:=0) rfl (by kernel_rfl) (by kernel_rfl) (by kernel_rfl) hcl hkn (by rfl) 0 rfl (by kernel_rfl) 29 (.tmp 7) rfl z2 0 rfl cs2 _ (fun w' h=>(HT2.out.grew (gd.trans h)).row) Tryz.underlying29 rfl (by rw[HT2.out.len];exact AD) (fun _ _ _ h=>h) (by kernel_rfl) ?_;clear hcl hkn;intro hcl hkn
 try simp only[List.getElem_toArray,List.getElem_cons_zero,List.getElem_cons_succ,Act.put,List.setIfInBounds_toArray,List.set_cons_zero,List.set_cons_succ]
 refine AZ hcl (i:=1) (by kernel_rfl) rfl (by kernel_rfl) (fun K hK=>?_);go_simp;(with_reducible refine(HV2.out _ (gd.trans p0)).mono ?_);rintro e3 v5 ⟨rfl,q5v⟩;have p5:=p0.trans q5v;refine hK _ _ (AJ (.inr p5)) ?_;clear hK K;clear hcl hkn;intro hcl hkn
 try simp only[List.getElem_toArray,List.getElem_cons_zero,List.getElem_cons_succ,Act.put,List.setIfInBounds_toArray,List.set_cons_zero,List.set_cons_succ]
 refine AZ hcl (i:=2) (by kernel_rfl) rfl (by kernel_rfl) (fun K hK=>?_);go_simp;refine hK _ _ (AJ (.inr p5)) ?_;clear hK K;clear hcl hkn;intro hcl hkn
 try simp only[List.getElem_toArray,List.getElem_cons_zero,List.getElem_cons_succ,Act.put,List.setIfInBounds_toArray,List.set_cons_zero,List.set_cons_succ]
 refine AZ hcl (i:=3) (by kernel_rfl) rfl (by kernel_rfl) (fun K hK=>?_);go_simp;refine hK _ _ (AJ (.inr p5)) ?_;clear hK K;clear hcl hkn;intro hcl hkn
 try simp only[List.getElem_toArray,List.getElem_cons_zero,List.getElem_cons_succ,Act.put,List.setIfInBounds_toArray,List.set_cons_zero,List.set_cons_succ]
 refine BP [15,14,8,7,6,5] 21 _ (i:=4) rfl (by kernel_rfl) (by kernel_rfl) (by kernel_rfl) hcl hkn (by rfl) 0 rfl (by kernel_rfl) 29 (.tmp 8) rfl z3 0 rfl cs3 _ (fun w' h=>(HT3.out.grew (gd.trans h)).row) Tryz.underlying29 rfl (by rw[HT3.out.len];exact AD) (fun _ _ _ h=>h) (by kernel_rfl) ?_;clear hcl hkn;intro hcl hkn
 try simp only[List.getElem_toArray,List.getElem_cons_zero,List.getElem_cons_succ,Act.put,List.setIfInBounds_toArray,List.set_cons_zero,List.set_cons_succ]
 refine AZ hcl (i:=5) (by kernel_rfl) rfl (by kernel_rfl) (fun K hK=>?_);go_simp;(with_reducible refine(HV3.out _ (gd.trans p5)).mono ?_);rintro e3 v6 ⟨rfl,q6v⟩;have p6:=p5.trans q6v;refine hK _ _ (AJ (.inr p6)) ?_;clear hK K;clear hcl hkn;intro hcl hkn
 try simp only[List.getElem_toArray,List.getElem_cons_zero,List.getElem_cons_succ,Act.put,List.setIfInBounds_toArray,List.set_cons_zero,List.set_cons_succ]
 refine AZ hcl (i:=6) (by kernel_rfl) rfl (by kernel_rfl) (fun K hK=>?_);go_simp;refine hK _ _ (AJ (.inr p6)) ?_;clear hK K;clear hcl hkn;intro hcl hkn
 try simp only[List.getElem_toArray,List.getElem_cons_zero,List.getElem_cons_succ,Act.put,List.setIfInBounds_toArray,List.set_cons_zero,List.set_cons_succ]
 refine AZ hcl (i:=7) (by kernel_rfl) rfl (by kernel_rfl) (fun K hK=>?_);go_simp;refine hK _ _ (AJ (.inr p6)) ?_;clear hK K;clear hcl hkn;intro hcl hkn
 try simp only[List.getElem_toArray,List.getElem_cons_zero,List.getElem_cons_succ,Act.put,List.setIfInBounds_toArray,List.set_cons_zero,List.set_cons_succ]
 refine AZ hcl (i:=8) (by kernel_rfl) rfl (by kernel_rfl) (fun K hK=>?_);go_simp;refine hK _ _ (AJ (.inr p6)) ?_;clear hK K;clear hcl hkn;intro hcl hkn
 try simp only[List.getElem_toArray,List.getElem_cons_zero,List.getElem_cons_succ,Act.put,List.setIfInBounds_toArray,List.set_cons_zero,List.set_cons_succ]
 refine BP [15,14,13,12,10] 21 _ (i:=9) rfl (by kernel_rfl) (by kernel_rfl) (by kernel_rfl) hcl hkn (by rfl) 0 rfl (by kernel_rfl) 29 (.tmp 7) rfl z2 0 rfl cs2 _ (fun w' h=>(HT2.out.grew (gd.trans h)).row) Tryz.underlying29 rfl (by rw[HT2.out.len];exact AD) (fun _ _ _ h=>h) (by kernel_rfl) ?_;clear hcl hkn;intro hcl hkn
 try simp only[List.getElem_toArray,List.getElem_cons_zero,List.getElem_cons_succ,Act.put,List.setIfInBounds_toArray,List.set_cons_zero,List.set_cons_succ]
 refine BP [15,14,13,12] 21 _ (i:=11) rfl (by kernel_rfl) (by kernel_rfl) (by kernel_rfl) hcl hkn (by rfl) 0 rfl (by kernel_rfl) 29 (.tmp 7) rfl z2 0 rfl cs2 _ (fun w' h=>(HT2.out.grew (gd.trans h)).row) Tryz.underlying29 rfl (by rw[HT2.out.len];exact AD) (fun _ _ _ h=>h) (by kernel_rfl) ?_;clear hcl hkn;intro hcl hkn
 try simp only[List.getElem_toArray,List.getElem_cons_zero,List.getElem_cons_succ,Act.put,List.setIfInBounds_toArray,List.set_cons_zero,List.set_cons_succ]
 refine AZ hcl (i:=10) (by kernel_rfl) rfl (by kernel_rfl) (fun K hK=>?_);go_simp;(with_reducible refine(HR2.out _ (gd.trans p6)).mono ?_);rintro e3 v7 ⟨c7,rfl,h7,q7v⟩;have p7:=p6.trans q7v;refine hK _ _ (AJ (.inr p7)) ?_;clear hK K;clear hcl hkn;intro hcl hkn
 try simp only[List.getElem_toArray,List.getElem_cons_zero,List.getElem_cons_succ,Act.put,List.setIfInBounds_toArray,List.set_cons_zero,List.set_cons_succ]
 refine AZ hcl (i:=12) (by kernel_rfl) rfl (by kernel_rfl) (fun K hK=>?_);go_simp;(with_reducible refine((HT2.out.grew (gd.trans p7)).eq h7).mono ?_);rintro e3 v8 ⟨rfl,q8v⟩;have p8:=p7.trans q8v;refine hK _ _ (AJ (.inr p8)) ?_;clear hK K;clear hcl hkn;intro hcl hkn
 try simp only[List.getElem_toArray,List.getElem_cons_zero,List.getElem_cons_succ,Act.put,List.setIfInBounds_toArray,List.set_cons_zero,List.set_cons_succ]
 refine AZ hcl (i:=13) (by kernel_rfl) rfl (by kernel_rfl) (fun K hK=>?_);go_simp;refine hK _ _ (AJ (.inr p8)) ?_;clear hK K;clear hcl hkn;intro hcl hkn
 try simp only[List.getElem_toArray,List.getElem_cons_zero,List.getElem_cons_succ,Act.put,List.setIfInBounds_toArray,List.set_cons_zero,List.set_cons_succ]
 refine AZ hcl (i:=14) (by kernel_rfl) rfl (by kernel_rfl) (fun K hK=>?_);go_simp;refine hK _ _ (AJ (.inr p8)) ?_;clear hK K;clear hcl hkn;intro hcl hkn
 try simp only[List.getElem_toArray,List.getElem_cons_zero,List.getElem_cons_succ,Act.put,List.setIfInBounds_toArray,List.set_cons_zero,List.set_cons_succ]
 refine AZ hcl (i:=15) (by kernel_rfl) rfl (by kernel_rfl) (fun K hK=>?_);go_simp;refine hK _ _ (AJ (.inr p8)) ?_;clear hK K;clear hcl hkn;intro hcl hkn
 try simp only[List.getElem_toArray,List.getElem_cons_zero,List.getElem_cons_succ,Act.put,List.setIfInBounds_toArray,List.set_cons_zero,List.set_cons_succ]
 refine BP [20,19,17] 21 _ (i:=16) rfl (by kernel_rfl) (by kernel_rfl) (by kernel_rfl) hcl hkn (by rfl) 0 rfl (by kernel_rfl) 29 (.tmp 8) rfl z3 0 rfl cs3 _ (fun w' h=>(HT3.out.grew (gd.trans h)).row) Tryz.underlying29 rfl (by rw[HT3.out.len];exact AD) (fun _ _ _ h=>h) (by kernel_rfl) ?_;clear hcl hkn;intro hcl hkn
 try simp only[List.getElem_toArray,List.getElem_cons_zero,List.getElem_cons_succ,Act.put,List.setIfInBounds_toArray,List.set_cons_zero,List.set_cons_succ]
 refine BP [20,19] 21 _ (i:=18) rfl (by kernel_rfl) (by kernel_rfl) (by kernel_rfl) hcl hkn (by rfl) 0 rfl (by kernel_rfl) 29 (.tmp 8) rfl z3 0 rfl cs3 _ (fun w' h=>(HT3.out.grew (gd.trans h)).row) Tryz.underlying29 rfl (by rw[HT3.out.len];exact AD) (fun _ _ _ h=>h) (by kernel_rfl) ?_;clear hcl hkn;intro hcl hkn
 try simp only[List.getElem_toArray,List.getElem_cons_zero,List.getElem_cons_succ,Act.put,List.setIfInBounds_toArray,List.set_cons_zero,List.set_cons_succ]
 refine AZ hcl (i:=17) (by kernel_rfl) rfl (by kernel_rfl) (fun K hK=>?_);go_simp;(with_reducible refine(HF3.out _ (gd.trans p8)).mono ?_);rintro e3 v9 ⟨c9,rfl,h9,q9v⟩;have p9:=p8.trans q9v;refine hK _ _ (AJ (.inr p9)) ?_;clear hK K;clear hcl hkn;intro hcl hkn
 try simp only[List.getElem_toArray,List.getElem_cons_zero,List.getElem_cons_succ,Act.put,List.setIfInBounds_toArray,List.set_cons_zero,List.set_cons_succ]
 refine AZ hcl (i:=19) (by kernel_rfl) rfl (by kernel_rfl) (fun K hK=>?_);go_simp;(with_reducible refine((HT3.out.grew (gd.trans p9)).eq h9).mono ?_);rintro e3 v10 ⟨rfl,q10v⟩;have p10:=p9.trans q10v;refine hK _ _ (AJ (.inr p10)) ?_;clear hK K;clear hcl hkn;intro hcl hkn
 try simp only[List.getElem_toArray,List.getElem_cons_zero,List.getElem_cons_succ,Act.put,List.setIfInBounds_toArray,List.set_cons_zero,List.set_cons_succ]
 refine AZ hcl (i:=20) (by kernel_rfl) rfl (by kernel_rfl) (fun K hK=>?_);go_simp;refine hK _ _ (AJ (.inr p10)) ?_;clear hK K;clear hcl hkn;intro hcl hkn
 try simp only[List.getElem_toArray,List.getElem_cons_zero,List.getElem_cons_succ,Act.put,List.setIfInBounds_toArray,List.set_cons_zero,List.set_cons_succ]
 refine AZ hcl (i:=21) (by kernel_rfl) rfl (by kernel_rfl) (fun K hK=>?_);go_simp;refine hK _ _ (AJ (.inl (by kernel_rfl))) ?_;clear hK K;clear hcl hkn;intro hcl hkn
 try simp only[List.getElem_toArray,List.getElem_cons_zero,List.getElem_cons_succ,Act.put,List.setIfInBounds_toArray,List.set_cons_zero,List.set_cons_succ]
 refine BK (by kernel_rfl) ?_ _;have HB2:=S9 (gd.trans p10);clear hcl hkn gd p0 p5 q5v p6 q6v p7 q7v p8 q8v p9 q9v p10 q10v HV2 HV3 HR2 HF3 HB;go_upto_region 9 with fail;refine B8 [(29,fun w'=>A5 v10.drew w')] (by kernel_rfl) (by intro pp hp;obtain rfl:=SJ.1 hp;exact Sa _) ?_;intro hcl hkn;have gd:A5 wh v10.drew:=HB2.out.trans (Sd (Sa v10));have p0:A5 v10.drew v10.drew:=Sa _;refine BP [28,26,25,19,18,12,11,5,4,1] 29 _ (i:=0) rfl (by kernel_rfl) (by kernel_rfl) (by kernel_rfl) hcl hkn (by rfl) 0 rfl (by kernel_rfl) 29 (.tmp 7) rfl z2 0 rfl cs2 _ (fun w' h=>(HT2.out.grew (gd.trans h)).row) Tryz.underlying29 rfl (by rw[HT2.out.len];exact AD) (fun _ _ _ h=>h) (by kernel_rfl) ?_;clear hcl hkn;intro hcl hkn
 try simp only[List.getElem_toArray,List.getElem_cons_zero,List.getElem_cons_succ,Act.put,List.setIfInBounds_toArray,List.set_cons_zero,List.set_cons_succ]
 refine BP [28,26,25,19,18,12,11,5,4,3] 29 _ (i:=2) rfl (by kernel_rfl) (by kernel_rfl) (by kernel_rfl) hcl hkn (by rfl) 0 rfl (by kernel_rfl) 29 (.tmp 6) rfl z1 0 rfl cs1 _ (fun w' h=>(HT1.out.grew (gd.trans h)).row) Tryz.underlying29 rfl (by rw[HT1.out.len];exact AD) (fun _ _ _ h=>h) (by kernel_rfl) ?_;clear hcl hkn;intro hcl hkn
 try simp only[List.getElem_toArray,List.getElem_cons_zero,List.getElem_cons_succ,Act.put,List.setIfInBounds_toArray,List.set_cons_zero,List.set_cons_succ]
 refine AZ hcl (i:=1) (by kernel_rfl) rfl (by kernel_rfl) (fun K hK=>?_);go_simp;(with_reducible refine(HN2.out _ (gd.trans p0)).mono ?_);rintro e3 v11 ⟨rfl,q11v⟩;have p11:=p0.trans q11v;refine hK _ _ (AJ (.inr p11)) ?_;clear hK K;clear hcl hkn;intro hcl hkn
 try simp only[List.getElem_toArray,List.getElem_cons_zero,List.getElem_cons_succ,Act.put,List.setIfInBounds_toArray,List.set_cons_zero,List.set_cons_succ]
 refine AZ hcl (i:=3) (by kernel_rfl) rfl (by kernel_rfl) (fun K hK=>?_);go_simp;(with_reducible refine(HN1.out _ (gd.trans p11)).mono ?_);rintro e3 v12 ⟨rfl,q12v⟩;have p12:=p11.trans q12v;refine hK _ _ (AJ (.inr p12)) ?_;clear hK K;clear hcl hkn;intro hcl hkn
 try simp only[List.getElem_toArray,List.getElem_cons_zero,List.getElem_cons_succ,Act.put,List.setIfInBounds_toArray,List.set_cons_zero,List.set_cons_succ]
 refine AZ hcl (i:=4) (by kernel_rfl) rfl (by kernel_rfl) (fun K hK=>?_);go_simp;refine hK _ _ (AJ (.inr p12)) ?_;clear hK K;clear hcl hkn;intro hcl hkn
 try simp only[List.getElem_toArray,List.getElem_cons_zero,List.getElem_cons_succ,Act.put,List.setIfInBounds_toArray,List.set_cons_zero,List.set_cons_succ]
 refine AZ hcl (i:=5) (by kernel_rfl) rfl (by kernel_rfl) (fun K hK=>?_);go_simp;refine hK _ _ (AJ (.inr p12)) ?_;clear hK K;clear hcl hkn;intro hcl hkn
 try simp only[List.getElem_toArray,List.getElem_cons_zero,List.getElem_cons_succ,Act.put,List.setIfInBounds_toArray,List.set_cons_zero,List.set_cons_succ]
 refine BP [28,26,25,19,18,12,11,10,7] 29 _ (i:=6) rfl (by kernel_rfl) (by kernel_rfl) (by kernel_rfl) hcl hkn (by rfl) 0 rfl (by kernel_rfl) 29 (.tmp 7) rfl z2 0 rfl cs2 _ (fun w' h=>(HT2.out.grew (gd.trans h)).row) Tryz.underlying29 rfl (by rw[HT2.out.len];exact AD) (fun _ _ _ h=>h) (by kernel_rfl) ?_;clear hcl hkn;intro hcl hkn
 try simp only[List.getElem_toArray,List.getElem_cons_zero,List.getElem_cons_succ,Act.put,List.setIfInBounds_toArray,List.set_cons_zero,List.set_cons_succ]
 refine BP [28,26,25,19,18,12,11,10,9] 29 _ (i:=8) rfl (by kernel_rfl) (by kernel_rfl) (by kernel_rfl) hcl hkn (by rfl) 0 rfl (by kernel_rfl) 29 (.tmp 6) rfl z1 0 rfl cs1 _ (fun w' h=>(HT1.out.grew (gd.trans h)).row) Tryz.underlying29 rfl (by rw[HT1.out.len];exact AD) (fun _ _ _ h=>h) (by kernel_rfl) ?_;clear hcl hkn;intro hcl hkn
 try simp only[List.getElem_toArray,List.getElem_cons_zero,List.getElem_cons_succ,Act.put,List.setIfInBounds_toArray,List.set_cons_zero,List.set_cons_succ]
 refine AZ hcl (i:=7) (by kernel_rfl) rfl (by kernel_rfl) (fun K hK=>?_);go_simp;(with_reducible refine(HD2.out _ (gd.trans p12)).mono ?_);rintro e3 v13 ⟨rfl,q13v⟩;have p13:=p12.trans q13v;refine hK _ _ (AJ (.inr p13)) ?_;clear hK K;clear hcl hkn;intro hcl hkn
 try simp only[List.getElem_toArray,List.getElem_cons_zero,List.getElem_cons_succ,Act.put,List.setIfInBounds_toArray,List.set_cons_zero,List.set_cons_succ]
 refine AZ hcl (i:=9) (by kernel_rfl) rfl (by kernel_rfl) (fun K hK=>?_);go_simp;(with_reducible refine(HD1.out _ (gd.trans p13)).mono ?_);rintro e3 v14 ⟨rfl,q14v⟩;have p14:=p13.trans q14v;refine hK _ _ (AJ (.inr p14)) ?_;clear hK K;clear hcl hkn;intro hcl hkn
 try simp only[List.getElem_toArray,List.getElem_cons_zero,List.getElem_cons_succ,Act.put,List.setIfInBounds_toArray,List.set_cons_zero,List.set_cons_succ]
 refine AZ hcl (i:=10) (by kernel_rfl) rfl (by kernel_rfl) (fun K hK=>?_);go_simp;refine hK _ _ (AJ (.inr p14)) ?_;clear hK K;clear hcl hkn;intro hcl hkn
 try simp only[List.getElem_toArray,List.getElem_cons_zero,List.getElem_cons_succ,Act.put,List.setIfInBounds_toArray,List.set_cons_zero,List.set_cons_succ]
 refine AZ hcl (i:=11) (by kernel_rfl) rfl (by kernel_rfl) (fun K hK=>?_);go_simp;refine hK _ _ (AJ (.inr p14)) ?_;clear hK K;clear hcl hkn;intro hcl hkn
 try simp only[List.getElem_toArray,List.getElem_cons_zero,List.getElem_cons_succ,Act.put,List.setIfInBounds_toArray,List.set_cons_zero,List.set_cons_succ]
 refine AZ hcl (i:=12) (by kernel_rfl) rfl (by kernel_rfl) (fun K hK=>?_);go_simp;refine hK _ _ (AJ (.inr p14)) ?_;clear hK K;clear hcl hkn;intro hcl hkn
 try simp only[List.getElem_toArray,List.getElem_cons_zero,List.getElem_cons_succ,Act.put,List.setIfInBounds_toArray,List.set_cons_zero,List.set_cons_succ]
 refine BP [28,26,25,19,18,17,14] 29 _ (i:=13) rfl (by kernel_rfl) (by kernel_rfl) (by kernel_rfl) hcl hkn (by rfl) 0 rfl (by kernel_rfl) 29 (.tmp 7) rfl z2 0 rfl cs2 _ (fun w' h=>(HT2.out.grew (gd.trans h)).row) Tryz.underlying29 rfl (by rw[HT2.out.len];exact AD) (fun _ _ _ h=>h) (by kernel_rfl) ?_;clear hcl hkn;intro hcl hkn
 try simp only[List.getElem_toArray,List.getElem_cons_zero,List.getElem_cons_succ,Act.put,List.setIfInBounds_toArray,List.set_cons_zero,List.set_cons_succ]
 refine BP [28,26,25,19,18,17,16] 29 _ (i:=15) rfl (by kernel_rfl) (by kernel_rfl) (by kernel_rfl) hcl hkn (by rfl) 0 rfl (by kernel_rfl) 29 (.tmp 6) rfl z1 0 rfl cs1 _ (fun w' h=>(HT1.out.grew (gd.trans h)).row) Tryz.underlying29 rfl (by rw[HT1.out.len];exact AD) (fun _ _ _ h=>h) (by kernel_rfl) ?_;clear hcl hkn;intro hcl hkn
 try simp only[List.getElem_toArray,List.getElem_cons_zero,List.getElem_cons_succ,Act.put,List.setIfInBounds_toArray,List.set_cons_zero,List.set_cons_succ]
 refine AZ hcl (i:=14) (by kernel_rfl) rfl (by kernel_rfl) (fun K hK=>?_);go_simp;(with_reducible refine(HC2.out _ (gd.trans p14)).mono ?_);rintro e3 v15 ⟨rfl,q15v⟩;have p15:=p14.trans q15v;refine hK _ _ (AJ (.inr p15)) ?_;clear hK K;clear hcl hkn;intro hcl hkn
 try simp only[List.getElem_toArray,List.getElem_cons_zero,List.getElem_cons_succ,Act.put,List.setIfInBounds_toArray,List.set_cons_zero,List.set_cons_succ]
 refine AZ hcl (i:=16) (by kernel_rfl) rfl (by kernel_rfl) (fun K hK=>?_);go_simp;(with_reducible refine(HC1.out _ (gd.trans p15)).mono ?_);rintro e3 v16 ⟨rfl,q16v⟩;have p16:=p15.trans q16v;refine hK _ _ (AJ (.inr p16)) ?_;clear hK K;clear hcl hkn;intro hcl hkn
 try simp only[List.getElem_toArray,List.getElem_cons_zero,List.getElem_cons_succ,Act.put,List.setIfInBounds_toArray,List.set_cons_zero,List.set_cons_succ]
 refine AZ hcl (i:=17) (by kernel_rfl) rfl (by kernel_rfl) (fun K hK=>?_);go_simp;refine hK _ _ (AJ (.inr p16)) ?_;clear hK K;clear hcl hkn;intro hcl hkn
 try simp only[List.getElem_toArray,List.getElem_cons_zero,List.getElem_cons_succ,Act.put,List.setIfInBounds_toArray,List.set_cons_zero,List.set_cons_succ]
 refine AZ hcl (i:=18) (by kernel_rfl) rfl (by kernel_rfl) (fun K hK=>?_);go_simp;refine hK _ _ (AJ (.inr p16)) ?_;clear hK K;clear hcl hkn;intro hcl hkn
 try simp only[List.getElem_toArray,List.getElem_cons_zero,List.getElem_cons_succ,Act.put,List.setIfInBounds_toArray,List.set_cons_zero,List.set_cons_succ]
 refine AZ hcl (i:=19) (by kernel_rfl) rfl (by kernel_rfl) (fun K hK=>?_);go_simp;refine hK _ _ (AJ (.inr p16)) ?_;clear hK K;clear hcl hkn;intro hcl hkn
 try simp only[List.getElem_toArray,List.getElem_cons_zero,List.getElem_cons_succ,Act.put,List.setIfInBounds_toArray,List.set_cons_zero,List.set_cons_succ]
 refine BP [28,26,25,24,21] 29 _ (i:=20) rfl (by kernel_rfl) (by kernel_rfl) (by kernel_rfl) hcl hkn (by rfl) 0 rfl (by kernel_rfl) 29 (.tmp 8) rfl z3 0 rfl cs3 _ (fun w' h=>(HT3.out.grew (gd.trans h)).row) Tryz.underlying29 rfl (by rw[HT3.out.len];exact AD) (fun _ _ _ h=>h) (by kernel_rfl) ?_;clear hcl hkn;intro hcl hkn
 try simp only[List.getElem_toArray,List.getElem_cons_zero,List.getElem_cons_succ,Act.put,List.setIfInBounds_toArray,List.set_cons_zero,List.set_cons_succ]
 refine BP [28,26,25,24,23] 29 _ (i:=22) rfl (by kernel_rfl) (by kernel_rfl) (by kernel_rfl) hcl hkn (by rfl) 0 rfl (by kernel_rfl) 29 (.tmp 6) rfl z1 0 rfl cs1 _ (fun w' h=>(HT1.out.grew (gd.trans h)).row) Tryz.underlying29 rfl (by rw[HT1.out.len];exact AD) (fun _ _ _ h=>h) (by kernel_rfl) ?_;clear hcl hkn;intro hcl hkn
 try simp only[List.getElem_toArray,List.getElem_cons_zero,List.getElem_cons_succ,Act.put,List.setIfInBounds_toArray,List.set_cons_zero,List.set_cons_succ]
 refine AZ hcl (i:=21) (by kernel_rfl) rfl (by kernel_rfl) (fun K hK=>?_);go_simp;(with_reducible refine(HC3.out _ (gd.trans p16)).mono ?_);rintro e3 v17 ⟨rfl,q17v⟩;have p17:=p16.trans q17v;refine hK _ _ (AJ (.inr p17)) ?_;clear hK K;clear hcl hkn;intro hcl hkn
 try simp only[List.getElem_toArray,List.getElem_cons_zero,List.getElem_cons_succ,Act.put,List.setIfInBounds_toArray,List.set_cons_zero,List.set_cons_succ]
 refine AZ hcl (i:=23) (by kernel_rfl) rfl (by kernel_rfl) (fun K hK=>?_);go_simp;(with_reducible refine(HC1.out _ (gd.trans p17)).mono ?_);rintro e3 v18 ⟨rfl,q18v⟩;have p18:=p17.trans q18v;refine hK _ _ (AJ (.inr p18)) ?_;clear hK K;clear hcl hkn;intro hcl hkn
 try simp only[List.getElem_toArray,List.getElem_cons_zero,List.getElem_cons_succ,Act.put,List.setIfInBounds_toArray,List.set_cons_zero,List.set_cons_succ]
 refine AZ hcl (i:=24) (by kernel_rfl) rfl (by kernel_rfl) (fun K hK=>?_);go_simp;refine hK _ _ (AJ (.inr p18)) ?_;clear hK K;clear hcl hkn;intro hcl hkn
 try simp only[List.getElem_toArray,List.getElem_cons_zero,List.getElem_cons_succ,Act.put,List.setIfInBounds_toArray,List.set_cons_zero,List.set_cons_succ]
 refine AZ hcl (i:=25) (by kernel_rfl) rfl (by kernel_rfl) (fun K hK=>?_);go_simp;refine hK _ _ (AJ (.inr p18)) ?_;clear hK K;clear hcl hkn;intro hcl hkn
 try simp only[List.getElem_toArray,List.getElem_cons_zero,List.getElem_cons_succ,Act.put,List.setIfInBounds_toArray,List.set_cons_zero,List.set_cons_succ]
 refine AZ hcl (i:=26) (by kernel_rfl) rfl (by kernel_rfl) (fun K hK=>?_);go_simp;refine hK _ _ (AJ (.inr p18)) ?_;clear hK K;clear hcl hkn;intro hcl hkn
 try simp only[List.getElem_toArray,List.getElem_cons_zero,List.getElem_cons_succ,Act.put,List.setIfInBounds_toArray,List.set_cons_zero,List.set_cons_succ]
 refine AZ hcl (i:=27) (by kernel_rfl) rfl (by kernel_rfl) (fun K hK=>?_);go_simp;(with_reducible refine(HL.out _ (gd.trans p18)).mono ?_);rintro e3 v19 ⟨rfl,q19v⟩;have p19:=p18.trans q19v;refine hK _ _ (AJ (.inr p19)) ?_;clear hK K;clear hcl hkn;intro hcl hkn
 try simp only[List.getElem_toArray,List.getElem_cons_zero,List.getElem_cons_succ,Act.put,List.setIfInBounds_toArray,List.set_cons_zero,List.set_cons_succ]
 refine AZ hcl (i:=28) (by kernel_rfl) rfl (by kernel_rfl) (fun K hK=>?_);go_simp;refine hK _ _ (AJ (.inr p19)) ?_;clear hK K;clear hcl hkn;intro hcl hkn
 try simp only[List.getElem_toArray,List.getElem_cons_zero,List.getElem_cons_succ,Act.put,List.setIfInBounds_toArray,List.set_cons_zero,List.set_cons_succ]
 refine AZ hcl (i:=29) (by kernel_rfl) rfl (by kernel_rfl) (fun K hK=>?_);go_simp;refine hK _ _ (AJ (.inl (by kernel_rfl))) ?_;clear hK K;clear hcl hkn;intro hcl hkn
 try simp only[List.getElem_toArray,List.getElem_cons_zero,List.getElem_cons_succ,Act.put,List.setIfInBounds_toArray,List.set_cons_zero,List.set_cons_succ]
 refine BK (by kernel_rfl) ?_ _;go_wp2_with fail;go_ret;exact⟨rfl,HG.out.trans (gd.trans p19)⟩
end Go.Proofs.YthpflelgbadkcaaGreatDoor
