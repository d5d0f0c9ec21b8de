/- What the card of the law stands on: PlTree, PlReach. -/
import Derived.Test.YthpflelgbadkcaaGreatDoorRewriteReadsP01
import Derived.Test.YthpflelgbadkcaaGreatDoorRewriteReadsP43
import Derived.Test.YthpflelgbadkcaaGreatDoorRewriteReadsP44
import Derived.Laws.Cover1
set_option maxRecDepth 100000
set_option maxHeartbeats 12800000
set_option linter.unusedVariables false
set_option linter.unusedSimpArgs false
namespace Go.Proofs.YthpflelgbadkcaaGreatDoor
open Go.RowKit Go.Shelf Pl
attribute [local go_sem] Oper.semAt_some
def V8 (w1:World) (es:List Ex) (wr:World) (v:Value):Prop:=∃rows,BJ wr w1.heap.size 29 11 v rows∧CL wr (J6 0 w1.heap.size v wr.heap.size) es rows∧A5 w1 wr
theorem UX (e:Ex) (hok:BL Be e) (hv:Ca e=0) (w:World) (v:Value) (hwt:D5 w) (hp:Su w (fun b=>b<w.heap.size) v (M1 e)):
  Calls Tryz.prog 72 #[v] w fun e' w'=>∃cs,e'= .returned (.tuple #[.agg cs.toArray,.int .i64 0])∧BZ w' w'.heap.size e cs∧A5 w w':=by
 have hvv:AL e≤200∧BL QT e:=by
  unfold Ca at hv;split at hv
  ·simp at hv
  ·rename_i h9
   exact⟨by omega,BL.and (AL e) e (SD _) hok ((Eh (AL e) e (SD _)).1 hv)⟩
 have HGd:=S9 (T8 (AL e) e (SD _) hvv.2);have HVd:=S9 (fun w' (g:A5 w w') cs (hr:BZ w' w'.heap.size e cs)=>Ek e (by omega) hok w' cs (hwt.grew g) hr);rw[hv]at HVd;obtain⟨m,hm⟩:∃m,(M1 e).length=m:=⟨_,rfl⟩;have hm2:m≤200:=by rw[←hm,Sy];exact hvv.1
 have HM:=S9 hm;obtain⟨A0,n0,c0,rfl,hn0,hc0⟩:=hp.slice;rw[hm]at hn0;have hn9:=hn0.symm;subst hn9;have HP:=S9 hp;have hb1:=Sc w 29 (AH 0 0).toArray;have hG1:=(Sa w).alloc (.cells (AH 0 0).toArray 29);obtain⟨w1,hw1⟩:∃w1,w.alloc (.cells (AH 0 0).toArray 29)=w1:=⟨_,rfl⟩;rw[hw1]at hb1 hG1;have HB1:=S9 hb1;have HG1:=S9 hG1;clear hok hv hwt hvv hm hp hb1 hG1;have t0:((200:Int)<(m:Nat))=False:=eq_false (by omega);go_enter Tryz.func72,Tryz.ntmps72;go_wp2_with fail;change Code.wp _ _ _ _ (w.alloc (.cells (AH 0 0).toArray 29));rw[hw1];clear hw1;go_loopw [4,17] (fun so i wr=>∃(j n c:Nat) (A:Option Addr),j≤m∧i= .int .i64 (j:Nat)∧so= .slice A n c∧n=(Tm [] ((M1 e).take j)).length∧V8 w1 (Tm [] ((M1 e).take j)) wr (.slice A n c)) (fun _ i _=>m-(intOf i).toNat)
 case atStart=>exact⟨0,0,0,none,by omega,rfl,rfl,rfl,[],BJ.nil _ _ _ _,CL.nil _ _,Sa _⟩
 case round=>
  obtain⟨j,n,c,A,hj,rfl,rfl,hn,rows,hM,hT,hG⟩:=hrel;by_cases hlt:j<m
  ·have hjl:j<(M1 e).length:=by rw[HM.out];exact hlt
   obtain⟨x,hx⟩:∃x,(M1 e)[j]? =some x:=⟨_,SF hjl⟩;have hxe:x=(M1 e)[j]:=by rw[SF hjl]at hx;exact(SI hx).symm
   have hsp:(M1 e).take j++x::(M1 e).drop (j+1)=M1 e:=by rw[hxe,←List.drop_eq_getElem_cons hjl,List.take_append_drop]
   have hgd:=HGd.out x (SN hx);obtain⟨S,hS⟩:=Tx e [] _ _ x hsp;have hS1:Tm [] ((M1 e).take (j+1))=S++[x]:=by
    rw[←List.take_append_getElem hjl,←hxe,Sr,hS];exact U0 S x
   have hle:(Tm [] ((M1 e).take j)).length≤200:=by
    have h1:=Ub ((M1 e).take j) [];rw[List.length_take]at h1;simp at h1;omega
   rw[hS]at hn hT hle;obtain⟨q,hq⟩:∃q,x.kids.length=q:=⟨_,rfl⟩;obtain⟨s,hs⟩:∃s,S.length=s:=⟨_,rfl⟩;rw[SX,hs,hq]at hn hle;subst hn;have hkp:Ty x.kind=(q:Nat):=by rw[UK hgd.2,hq]
   have HPo:=S9 (fun w'=>UR x.kind (Tp hgd.2) w');rw[hkp]at HPo;have HQ:=S9 (SC hq hs);have HS1:=S9 hS1;have HMn:=S9 hM;have HTr:=S9 hT;have HGr:=S9 hG;have gw:A5 w wr:=HG1.out.trans hG;obtain⟨b,o,cs,hA,hbl,hrg,hri⟩:=(HP.out.keep (S:=fun _=>False) (Q':=fun b=>b<wr.heap.size) (fun b hb=>⟨hb,fun h=>h,SE hb gw.size⟩) gw).at_ hx;subst hA;obtain⟨vm,vb,rfl,hms,hbs⟩:=hri;obtain⟨A1,n1,c1,rfl, -, -⟩:=hms.slice;obtain⟨A2,n2,c2,rfl, -, -⟩:=hbs.slice;have HRw:=S9 hrg;have HRi:=S9 (SC hms hbs);have HNd:=S9 hgd;clear hjl hx hxe hsp hS hS1 hq hs hkp hM hT hG hrg hms hbs hgd hbl;go_upto_region 11 with(first|((with_reducible refine AG 79 (.tmp 19) rfl ?_);refine wpList_load_mid rfl 79 (.tmp 19) rfl b (o+j*10) rfl (P4 x (.slice A1 n1 c1) (.slice A2 n2 c2)) _ HRw.out Tryz.underlying79 rfl T0 ?_)|((with_reducible refine AF 79 (.tmp 6) (.tmp 20) rfl ?_);refine Ar 79 (.tmp 6) (.tmp 20) (wr.heap.size) (P4 x (.slice A1 n1 c1) (.slice A2 n2 c2)) Uy 79 T0 rfl (Ta _ _ _ _ _ _ _) rfl rfl rfl rfl (Sc wr 79 _) ?_;intro w6 hb6 k6 d6;have g6:A5 wr w6:=Sb ((Sa wr).alloc _) k6 (fun i hi e=>by omega);have HB6:=S9 hb6;have HG6:=S9 g6;have c0:w6.cell? ⟨wr.heap.size,0,none⟩=some (.int .i64 x.kind):=hb6.cell 0;clear hb6 k6 d6 g6)|(go_at_call 104;(with_reducible refine(HPo.out _).mono ?_);rintro e7 w7 ⟨rfl,k7⟩;have HG7:=S9 k7;clear k7));have HB7:=S9 (HB6.out.grew HG7.out);have HG9:=S9 (HG6.out.trans HG7.out);have HM9:=S9 (HMn.out.grew HG9.out);have gd:A5 w7 w7.drew:=Sd (Sa w7);have g0:A5 w7.drew w7.drew:=Sa _;have HLn:=S9 (show x.ms.length≤1000000∧x.bys.length≤1000000 from⟨SH HNd.out.1.2.2.2.2.1 (by decide),SH HNd.out.1.2.2.2.2.2 (by decide)⟩);have HCM:=S9 (fun w' (g:A5 w7.drew w')=>Lx (.slice A1 n1 c1) (x.ms.map Au) w' (Ch.keep (HRi.out.1.toB (fun b hb=>hb)) (SD _) (HG9.out.trans (gd.trans g)).size (HG9.out.trans (gd.trans g)) (fun _ _ h=>h)) (Pu _) (QN _) (by rw[List.length_map];exact HLn.out.1));have HCS:=S9 (fun w' (g:A5 w7.drew w')=>Lu (.slice A2 n2 c2) (x.bys.map fun s=>[Value.string s]) w' (Ch.keep (HRi.out.2.toB (fun b hb=>hb)) (SD _) (HG9.out.trans (gd.trans g)).size (HG9.out.trans (gd.trans g)) (fun _ _ h=>h)) (OE _) (PE _) (by rw[List.length_map];exact HLn.out.2));have hsq:s+q=rows.length:=by rw[HTr.out.1,SX,HQ.out.1,HQ.out.2]
   have HSq:=S9 hsq;clear hsq;obtain⟨A',hAe,hAr⟩:=UG (r:=s) HMn.out (by omega);rw[Nat.add_sub_cancel_left]at hAe hAr;have HRr:=S9 hAr;have HEv:=S9 (HMn.out.2);have HOn:=S9 (CL.one HTr.out HMn.out.2);have HCK:=S9 (fun w' (g:A5 w7.drew w')=>Ts (.slice A' q (c-s)) (rows.drop s) w' (Ch.keep (HRr.out.toB (fun b hb=>(HMn.out.lt b hb).2)) (SD _) (HG9.out.trans (gd.trans g)).size (HG9.out.trans (gd.trans g)) (fun _ _ h=>h)) (fun r hr=>HEv.out r (List.mem_of_mem_drop hr)) (fun r hr=>HOn.out r (List.mem_of_mem_drop hr)) (by rw[List.length_drop];have:=HSq.out;omega));clear hAr;go_cut [9] (fun s9 wx=>∃(z:Nat) (v1 v2 v3:Value),s9= .pointer (some ⟨z,0,none⟩)∧Ag wx z 29 (AE x v1 v2 v3).toArray∧AW wx (J6 0 w1.heap.size (.slice A (s+q) c) wx.heap.size) x (AE x v1 v2 v3)∧A5 w7 wx)
   case first=>
    refine B8 [(26,fun w'=>A5 w7.drew w')] (by kernel_rfl) (by intro pp hp;obtain rfl:=SJ.1 hp;exact Sa _) ?_;intro hcl hkn
    try simp only[Bn]
    refine' B1 (i:=0) (v:=_) rfl (by kernel_rfl) (by kernel_rfl) (by kernel_rfl) hcl hkn (by rfl) (fun _ _ _ h=>h) rfl ?_ ?_
    rotate_left
    ·intro w';go_simp;try with_reducible rfl
    clear hcl hkn;intro hcl hkn
    try simp only[Bn]
    refine' Fq [24] 26 _ (i:=1) (v:=_) rfl (by kernel_rfl) (by kernel_rfl) (by kernel_rfl) hcl hkn (by rfl) 0 rfl (by kernel_rfl) (fun _ _ _ h=>h) rfl ?_ ?_
    rotate_left
    ·intro w' hA;have hc:w'.cell? ⟨wr.heap.size,0,none⟩=some (.int .i64 x.kind):=(HB7.out.drew.grew hA).cell 0;go_simp;try with_reducible rfl
    clear hcl hkn;intro hcl hkn
    try simp only[Bn]
    refine' B1 (i:=2) (v:=_) rfl (by kernel_rfl) (by kernel_rfl) (by kernel_rfl) hcl hkn (by rfl) (fun _ _ _ h=>h) rfl ?_ ?_
    rotate_left
    ·intro w';go_simp;try with_reducible rfl
    clear hcl hkn;intro hcl hkn
    try simp only[Bn]
    refine' Fq [24] 26 _ (i:=3) (v:=_) rfl (by kernel_rfl) (by kernel_rfl) (by kernel_rfl) hcl hkn (by rfl) 0 rfl (by kernel_rfl) (fun _ _ _ h=>h) rfl ?_ ?_
    rotate_left
    ·intro w' hA;have hc:w'.cell? ⟨wr.heap.size,1,none⟩=some (.int .i64 x.fn):=(HB7.out.drew.grew hA).cell 1;go_simp;try with_reducible rfl
    clear hcl hkn;intro hcl hkn
    try simp only[Bn]
    refine' B1 (i:=4) (v:=_) rfl (by kernel_rfl) (by kernel_rfl) (by kernel_rfl) hcl hkn (by rfl) (fun _ _ _ h=>h) rfl ?_ ?_
    rotate_left
    ·intro w';go_simp;try with_reducible rfl
    clear hcl hkn;intro hcl hkn
    try simp only[Bn]
    refine' Fq [24] 26 _ (i:=5) (v:=_) rfl (by kernel_rfl) (by kernel_rfl) (by kernel_rfl) hcl hkn (by rfl) 0 rfl (by kernel_rfl) (fun _ _ _ h=>h) rfl ?_ ?_
    rotate_left
    ·intro w' hA;have hc:w'.cell? ⟨wr.heap.size,2,none⟩=some (.int .i64 x.window):=(HB7.out.drew.grew hA).cell 2;go_simp;try with_reducible rfl
    clear hcl hkn;intro hcl hkn
    try simp only[Bn]
    refine' B1 (i:=6) (v:=_) rfl (by kernel_rfl) (by kernel_rfl) (by kernel_rfl) hcl hkn (by rfl) (fun _ _ _ h=>h) rfl ?_ ?_
    rotate_left
    ·intro w';go_simp;try with_reducible rfl
    clear hcl hkn;intro hcl hkn
    try simp only[Bn]
    refine' Fq [24] 26 _ (i:=7) (v:=_) rfl (by kernel_rfl) (by kernel_rfl) (by kernel_rfl) hcl hkn (by rfl) 0 rfl (by kernel_rfl) (fun _ _ _ h=>h) rfl ?_ ?_
    rotate_left
    ·intro w' hA;have hc:w'.cell? ⟨wr.heap.size,3,none⟩=some (.int .i64 x.offset):=(HB7.out.drew.grew hA).cell 3;go_simp;try with_reducible rfl
    clear hcl hkn;intro hcl hkn
    try simp only[Bn]
    refine' B1 (i:=8) (v:=_) rfl (by kernel_rfl) (by kernel_rfl) (by kernel_rfl) hcl hkn (by rfl) (fun _ _ _ h=>h) rfl ?_ ?_
    rotate_left
    ·intro w';go_simp;try with_reducible rfl
    clear hcl hkn;intro hcl hkn
    try simp only[Bn]
    refine' Fq [24] 26 _ (i:=9) (v:=_) rfl (by kernel_rfl) (by kernel_rfl) (by kernel_rfl) hcl hkn (by rfl) 0 rfl (by kernel_rfl) (fun _ _ _ h=>h) rfl ?_ ?_
    rotate_left
    ·intro w' hA;have hc:w'.cell? ⟨wr.heap.size,4,none⟩=some (.int .i64 x.k):=(HB7.out.drew.grew hA).cell 4;go_simp;try with_reducible rfl
    clear hcl hkn;intro hcl hkn
    try simp only[Bn]
    refine' B1 (i:=10) (v:=_) rfl (by kernel_rfl) (by kernel_rfl) (by kernel_rfl) hcl hkn (by rfl) (fun _ _ _ h=>h) rfl ?_ ?_
    rotate_left
    ·intro w';go_simp;try with_reducible rfl
    clear hcl hkn;intro hcl hkn
    try simp only[Bn]
    refine NB [24] 26 _ (i:=11) rfl (by kernel_rfl) (by kernel_rfl) (by kernel_rfl) hcl hkn (by rfl) 0 rfl (by kernel_rfl) 24 (.tmp 47) rfl ⟨wr.heap.size,5,none⟩ rfl (AN x.num x.den) _ (fun w' hA=>MT ((HB7.out.drew.grew hA).rangeN 5 (AN x.num x.den) rfl)) Tryz.underlying24 rfl Ad (fun _ _ _ h=>h) rfl ?_;clear hcl hkn;intro hcl hkn
    try simp only[Bn]
    refine' B1 (i:=12) (v:=_) rfl (by kernel_rfl) (by kernel_rfl) (by kernel_rfl) hcl hkn (by rfl) (fun _ _ _ h=>h) rfl ?_ ?_
    rotate_left
    ·intro w';go_simp;try with_reducible rfl
    clear hcl hkn;intro hcl hkn
    try simp only[Bn]
    refine' Fq [24] 26 _ (i:=13) (v:=_) rfl (by kernel_rfl) (by kernel_rfl) (by kernel_rfl) hcl hkn (by rfl) 0 rfl (by kernel_rfl) (fun _ _ _ h=>h) rfl ?_ ?_
    rotate_left
    ·intro w' hA;have hc:w'.cell? ⟨wr.heap.size,7,none⟩=some (.string x.name):=(HB7.out.drew.grew hA).cell 7;go_simp;try with_reducible rfl
    clear hcl hkn;intro hcl hkn
    try simp only[Bn]
    refine' B1 (i:=14) (v:=_) rfl (by kernel_rfl) (by kernel_rfl) (by kernel_rfl) hcl hkn (by rfl) (fun _ _ _ h=>h) rfl ?_ ?_
    rotate_left
    ·intro w';go_simp;try with_reducible rfl
    clear hcl hkn;intro hcl hkn
    try simp only[Bn]
    refine' Fq [24,16] 26 _ (i:=15) (v:=_) rfl (by kernel_rfl) (by kernel_rfl) (by kernel_rfl) hcl hkn (by rfl) 0 rfl (by kernel_rfl) (fun _ _ _ h=>h) rfl ?_ ?_
    rotate_left
    ·intro w' hA;have hc:w'.cell? ⟨wr.heap.size,8,none⟩=some (.slice A1 n1 c1):=(HB7.out.drew.grew hA).cell 8;go_simp;try with_reducible rfl
    clear hcl hkn;intro hcl hkn
    try simp only[Bn]
    refine' B1 (i:=17) (v:=_) rfl (by kernel_rfl) (by kernel_rfl) (by kernel_rfl) hcl hkn (by rfl) (fun _ _ _ h=>h) rfl ?_ ?_
    rotate_left
    ·intro w';go_simp;try with_reducible rfl
    clear hcl hkn;intro hcl hkn
    try simp only[Bn]
    refine' Fq [24,19] 26 _ (i:=18) (v:=_) rfl (by kernel_rfl) (by kernel_rfl) (by kernel_rfl) hcl hkn (by rfl) 0 rfl (by kernel_rfl) (fun _ _ _ h=>h) rfl ?_ ?_
    rotate_left
    ·intro w' hA;have hc:w'.cell? ⟨wr.heap.size,9,none⟩=some (.slice A2 n2 c2):=(HB7.out.drew.grew hA).cell 9;go_simp;try with_reducible rfl
    clear hcl hkn;intro hcl hkn
    try simp only[Bn]
    refine' B1 (i:=20) (v:=_) rfl (by kernel_rfl) (by kernel_rfl) (by kernel_rfl) hcl hkn (by rfl) (fun _ _ _ h=>h) rfl ?_ ?_
    rotate_left
    ·intro w';go_simp;try with_reducible rfl
    clear hcl hkn;intro hcl hkn
    try simp only[Bn]
    refine' B1 (i:=21) (v:=_) rfl (by kernel_rfl) (by kernel_rfl) (by kernel_rfl) hcl hkn (by rfl) (fun _ _ _ h=>h) rfl ?_ ?_
    rotate_left
    ·intro w';go_simp;try with_reducible rfl
    clear hcl hkn;intro hcl hkn
    try simp only[Bn]
    refine B1 (i:=22) (v:= .slice A' q (c-s)) rfl (by kernel_rfl) (by kernel_rfl) (by kernel_rfl) hcl hkn (by rfl) (fun _ _ _ h=>h) rfl (fun w'=>by rw[←hAe];exact US (.tmp 57) (.tmp 58) rfl rfl rfl (by omega) w') ?_;clear hcl hkn;intro hcl hkn
    try simp only[Bn]
    refine TB hcl (i:=16) (j:=25) (by kernel_rfl) rfl rfl rfl rfl (fun K hK=>?_) (fun K hK=>?_)
    ·go_simp;(with_reducible refine(HCM.out _ g0).mono ?_);rintro e4 wa ⟨uwa,rfl,hwa,kwa⟩;obtain⟨Bwa,mwa,dwa,rfl, -, -⟩:=hwa.slice;have g016:=g0.trans kwa;refine hK _ _ (AJ (.inr g016)) ?_;clear hK K;clear hcl hkn;intro hcl hkn
     try simp only[Bn]
     refine TB hcl (i:=19) (j:=25) (by kernel_rfl) rfl rfl rfl rfl (fun K hK=>?_) (fun K hK=>?_)
     ·go_simp;(with_reducible refine(HCS.out _ g016).mono ?_);rintro e4 wb ⟨uwb,rfl,hwb,kwb⟩;obtain⟨Bwb,mwb,dwb,rfl, -, -⟩:=hwb.slice;have g01619:=g016.trans kwb;refine hK _ _ (AJ (.inr g01619)) ?_;clear hK K;clear hcl hkn;intro hcl hkn
      try simp only[Bn]
      refine TB hcl (i:=23) (j:=25) (by kernel_rfl) rfl rfl rfl rfl (fun K hK=>?_) (fun K hK=>?_)
      ·go_simp;(with_reducible refine(HCK.out _ g01619).mono ?_);rintro e4 wk ⟨uwk,rfl,hwk,kwk⟩;obtain⟨Bwk,mwk,dwk,rfl, -, -⟩:=hwk.slice;have g0161923:=g01619.trans kwk;refine hK _ _ (AJ (.inr g0161923)) ?_;clear hK K;clear hcl hkn;intro hcl hkn
       try simp only[Bn]
       refine B1 (i:=24) rfl (by kernel_rfl) (by kernel_rfl) (by kernel_rfl) hcl hkn (by rfl) (fun _ _ _ h=>h) rfl (T3 29 #[(0,.tmp 38),(1,.tmp 40),(2,.tmp 42),(3,.tmp 44),(4,.tmp 46),(5,.tmp 48),(6,.tmp 50),(7,.tmp 53),(8,.tmp 56),(9,.tmp 60)] rfl _ _ (T7 x.kind x.fn x.window x.offset x.k x.num x.den x.name Bwa Bwb Bwk mwa mwb mwk dwa dwb dwk) (by simp[Act.eval,Act.put])) ?_;clear hcl hkn;intro hcl hkn
       try simp only[Bn]
       refine AV hcl (i:=25) (by kernel_rfl) rfl rfl (fun K hK=>?_);refine T1 rfl ?_;intro wz hbz kz;have g0161923a:=g0161923.trans kz;refine hK _ _ (AJ (.inr g0161923a)) ?_;clear hK K;clear hcl hkn;intro hcl hkn
       try simp only[Bn]
       have hbc:=hbz.grew (Sa _);have zlt:w7.heap.size≤_:=(gd.trans g0161923).size;refine AV hcl (i:=26) (by kernel_rfl) rfl rfl (fun K hK=>?_);refine Bw 29 (.tmp 9) (.tmp 61) _ (AE x (.slice Bwa mwa dwa) (.slice Bwb mwb dwb) (.slice Bwk mwk dwk)) (AH 0 0) 29 AD rfl (Ay _ _ _ _ _ _ _ _ _ _) rfl rfl rfl hbc ?_;intro w9 hb9 k9;refine hK _ _ (AJ (.inl (by kernel_rfl))) ?_;clear hK K;clear hcl hkn;intro hcl hkn
       try simp only[Bn]
       refine BK (by kernel_rfl) ?_ _;clear hcl hkn;go_wp2_with fail;go_meet;exact⟨_,_,_,_,rfl,hb9,T6 (S:=S) HTr.out HMn.out HGr.out.size HQ.out.2 HG9.out hwa hwb hwk ((kwb.trans kwk).trans kz) (kwk.trans kz) kz (gd.trans g0) (gd.trans g016) (gd.trans g01619) (gd.trans g0161923) (.inl (kwb.trans kwk).size) (.inl kwk.size) (.inl (Sa _).size) zlt k9,Sb (gd.trans g0161923a) k9 (fun i hi e=>by omega)⟩
      refine T1 rfl ?_;intro wz hbz kz;have g01619a:=g01619.trans kz;refine hK _ _ (AJ (.inr g01619a)) ?_;clear hK K;clear hcl hkn;intro hcl hkn
      try simp only[Bn]
      refine AV hcl (i:=23) (by kernel_rfl) rfl rfl (fun K hK=>?_);go_simp;(with_reducible refine(HCK.out _ g01619a).mono ?_);rintro e4 wk ⟨uwk,rfl,hwk,kwk⟩;obtain⟨Bwk,mwk,dwk,rfl, -, -⟩:=hwk.slice;have g01619a23:=g01619a.trans kwk;refine hK _ _ (AJ (.inr g01619a23)) ?_;clear hK K;clear hcl hkn;intro hcl hkn
      try simp only[Bn]
      refine B1 (i:=24) rfl (by kernel_rfl) (by kernel_rfl) (by kernel_rfl) hcl hkn (by rfl) (fun _ _ _ h=>h) rfl (T3 29 #[(0,.tmp 38),(1,.tmp 40),(2,.tmp 42),(3,.tmp 44),(4,.tmp 46),(5,.tmp 48),(6,.tmp 50),(7,.tmp 53),(8,.tmp 56),(9,.tmp 60)] rfl _ _ (T7 x.kind x.fn x.window x.offset x.k x.num x.den x.name Bwa Bwb Bwk mwa mwb mwk dwa dwb dwk) (by simp[Act.eval,Act.put])) ?_;clear hcl hkn;intro hcl hkn
      try simp only[Bn]
      have hbc:=hbz.grew kwk;have zlt:w7.heap.size≤_:=(gd.trans g01619).size;refine AV hcl (i:=26) (by kernel_rfl) rfl rfl (fun K hK=>?_);refine Bw 29 (.tmp 9) (.tmp 61) _ (AE x (.slice Bwa mwa dwa) (.slice Bwb mwb dwb) (.slice Bwk mwk dwk)) (AH 0 0) 29 AD rfl (Ay _ _ _ _ _ _ _ _ _ _) rfl rfl rfl hbc ?_;intro w9 hb9 k9;refine hK _ _ (AJ (.inl (by kernel_rfl))) ?_;clear hK K;clear hcl hkn;intro hcl hkn
      try simp only[Bn]
      refine BK (by kernel_rfl) ?_ _;clear hcl hkn;go_wp2_with fail;go_meet;exact⟨_,_,_,_,rfl,hb9,T6 (S:=S) HTr.out HMn.out HGr.out.size HQ.out.2 HG9.out hwa hwb hwk ((kwb.trans kz).trans kwk) (kz.trans kwk) (Sa _) (gd.trans g0) (gd.trans g016) (gd.trans g01619a) (gd.trans g01619a23) (.inl kwb.size) (.inl (Sa _).size) (.inr (hbz.grew (Sa _)).lt) zlt k9,Sb (gd.trans g01619a23) k9 (fun i hi e=>by omega)⟩
     refine T1 rfl ?_;intro wz hbz kz;have g016a:=g016.trans kz;refine hK _ _ (AJ (.inr g016a)) ?_;clear hK K;clear hcl hkn;intro hcl hkn
     try simp only[Bn]
     refine AV hcl (i:=19) (by kernel_rfl) rfl rfl (fun K hK=>?_);go_simp;(with_reducible refine(HCS.out _ g016a).mono ?_);rintro e4 wb ⟨uwb,rfl,hwb,kwb⟩;obtain⟨Bwb,mwb,dwb,rfl, -, -⟩:=hwb.slice;have g016a19:=g016a.trans kwb;refine hK _ _ (AJ (.inr g016a19)) ?_;clear hK K;clear hcl hkn;intro hcl hkn
     try simp only[Bn]
     refine AV hcl (i:=23) (by kernel_rfl) rfl rfl (fun K hK=>?_);go_simp;(with_reducible refine(HCK.out _ g016a19).mono ?_);rintro e4 wk ⟨uwk,rfl,hwk,kwk⟩;obtain⟨Bwk,mwk,dwk,rfl, -, -⟩:=hwk.slice;have g016a1923:=g016a19.trans kwk;refine hK _ _ (AJ (.inr g016a1923)) ?_;clear hK K;clear hcl hkn;intro hcl hkn
     try simp only[Bn]
     refine B1 (i:=24) rfl (by kernel_rfl) (by kernel_rfl) (by kernel_rfl) hcl hkn (by rfl) (fun _ _ _ h=>h) rfl (T3 29 #[(0,.tmp 38),(1,.tmp 40),(2,.tmp 42),(3,.tmp 44),(4,.tmp 46),(5,.tmp 48),(6,.tmp 50),(7,.tmp 53),(8,.tmp 56),(9,.tmp 60)] rfl _ _ (T7 x.kind x.fn x.window x.offset x.k x.num x.den x.name Bwa Bwb Bwk mwa mwb mwk dwa dwb dwk) (by simp[Act.eval,Act.put])) ?_;clear hcl hkn;intro hcl hkn
     try simp only[Bn]
     have hbc:=hbz.grew (kwb.trans kwk);have zlt:w7.heap.size≤_:=(gd.trans g016).size;refine AV hcl (i:=26) (by kernel_rfl) rfl rfl (fun K hK=>?_);refine Bw 29 (.tmp 9) (.tmp 61) _ (AE x (.slice Bwa mwa dwa) (.slice Bwb mwb dwb) (.slice Bwk mwk dwk)) (AH 0 0) 29 AD rfl (Ay _ _ _ _ _ _ _ _ _ _) rfl rfl rfl hbc ?_;intro w9 hb9 k9;refine hK _ _ (AJ (.inl (by kernel_rfl))) ?_;clear hK K;clear hcl hkn;intro hcl hkn
     try simp only[Bn]
     refine BK (by kernel_rfl) ?_ _;clear hcl hkn;go_wp2_with fail;go_meet;exact⟨_,_,_,_,rfl,hb9,T6 (S:=S) HTr.out HMn.out HGr.out.size HQ.out.2 HG9.out hwa hwb hwk ((kz.trans kwb).trans kwk) kwk (Sa _) (gd.trans g0) (gd.trans g016a) (gd.trans g016a19) (gd.trans g016a1923) (.inl (Sa _).size) (.inr (hbz.grew (Sa _)).lt) (.inr (hbz.grew kwb).lt) zlt k9,Sb (gd.trans g016a1923) k9 (fun i hi e=>by omega)⟩
    refine T1 rfl ?_;intro wz hbz kz;have g0a:=g0.trans kz;refine hK _ _ (AJ (.inr g0a)) ?_;clear hK K;clear hcl hkn;intro hcl hkn
    try simp only[Bn]
    refine AV hcl (i:=16) (by kernel_rfl) rfl rfl (fun K hK=>?_);go_simp;(with_reducible refine(HCM.out _ g0a).mono ?_);rintro e4 wa ⟨uwa,rfl,hwa,kwa⟩;obtain⟨Bwa,mwa,dwa,rfl, -, -⟩:=hwa.slice;have g0a16:=g0a.trans kwa;refine hK _ _ (AJ (.inr g0a16)) ?_;clear hK K;clear hcl hkn;intro hcl hkn
    try simp only[Bn]
    refine AV hcl (i:=19) (by kernel_rfl) rfl rfl (fun K hK=>?_);go_simp;(with_reducible refine(HCS.out _ g0a16).mono ?_);rintro e4 wb ⟨uwb,rfl,hwb,kwb⟩;obtain⟨Bwb,mwb,dwb,rfl, -, -⟩:=hwb.slice;have g0a1619:=g0a16.trans kwb;refine hK _ _ (AJ (.inr g0a1619)) ?_;clear hK K;clear hcl hkn;intro hcl hkn
    try simp only[Bn]
    refine AV hcl (i:=23) (by kernel_rfl) rfl rfl (fun K hK=>?_);go_simp;(with_reducible refine(HCK.out _ g0a1619).mono ?_);rintro e4 wk ⟨uwk,rfl,hwk,kwk⟩;obtain⟨Bwk,mwk,dwk,rfl, -, -⟩:=hwk.slice;have g0a161923:=g0a1619.trans kwk;refine hK _ _ (AJ (.inr g0a161923)) ?_;clear hK K;clear hcl hkn;intro hcl hkn
    try simp only[Bn]
    refine B1 (i:=24) rfl (by kernel_rfl) (by kernel_rfl) (by kernel_rfl) hcl hkn (by rfl) (fun _ _ _ h=>h) rfl (T3 29 #[(0,.tmp 38),(1,.tmp 40),(2,.tmp 42),(3,.tmp 44),(4,.tmp 46),(5,.tmp 48),(6,.tmp 50),(7,.tmp 53),(8,.tmp 56),(9,.tmp 60)] rfl _ _ (T7 x.kind x.fn x.window x.offset x.k x.num x.den x.name Bwa Bwb Bwk mwa mwb mwk dwa dwb dwk) (by simp[Act.eval,Act.put])) ?_;clear hcl hkn;intro hcl hkn
    try simp only[Bn]
    have hbc:=hbz.grew ((kwa.trans kwb).trans kwk);have zlt:w7.heap.size≤_:=(gd.trans g0).size;refine AV hcl (i:=26) (by kernel_rfl) rfl rfl (fun K hK=>?_);refine Bw 29 (.tmp 9) (.tmp 61) _ (AE x (.slice Bwa mwa dwa) (.slice Bwb mwb dwb) (.slice Bwk mwk dwk)) (AH 0 0) 29 AD rfl (Ay _ _ _ _ _ _ _ _ _ _) rfl rfl rfl hbc ?_;intro w9 hb9 k9;refine hK _ _ (AJ (.inl (by kernel_rfl))) ?_;clear hK K;clear hcl hkn;intro hcl hkn
    try simp only[Bn]
    refine BK (by kernel_rfl) ?_ _;clear hcl hkn;go_wp2_with fail;go_meet;exact⟨_,_,_,_,rfl,hb9,T6 (S:=S) HTr.out HMn.out HGr.out.size HQ.out.2 HG9.out hwa hwb hwk (kwb.trans kwk) kwk (Sa _) (gd.trans g0a) (gd.trans g0a16) (gd.trans g0a1619) (gd.trans g0a161923) (.inr (hbz.grew (Sa _)).lt) (.inr (hbz.grew kwa).lt) (.inr (hbz.grew (kwa.trans kwb)).lt) zlt k9,Sb (gd.trans g0a161923) k9 (fun i hi e=>by omega)⟩
   case rest=>
    obtain⟨z,v1,v2,v3,rfl,hbx,hrx,gx⟩:=hcut;have HBx:=S9 hbx;have HRx:=S9 hrx;have HGx:=S9 (HG9.out.trans gx);have HOx:=S9 (Al hrx);have HMt:=S9 (HMn.out.take (k:=s) (by have:=HSq.out;omega));have hTt:=HTr.out.take s;rw[List.take_left' HQ.out.2,U4 (UW A (s+q) s c c)]at hTt;have HTt:=S9 hTt;have HHi:=S9 (UJ (r:=s) HMn.out);have hsc:s≤c:=by obtain⟨A9,n9,c9,e9, -,h9⟩:=HMt.out.slice;injection e9 with e1 e2 e3;omega
    clear hbx hrx gx hTt;have gd2:A5 wc wc.drew:=Sd (Sa wc);go_upto_region 12 with fail;refine B8 [(5,fun w'=>A5 wc.drew w')] (by kernel_rfl) (by intro pp hp;obtain rfl:=SJ.1 hp;exact Sa _) ?_;intro hcl hkn
    try simp only[Bn]
    refine' B1 (i:=0) (v:=_) rfl (by kernel_rfl) (by kernel_rfl) (by kernel_rfl) hcl hkn (by rfl) (fun _ _ _ h=>h) rfl ?_ ?_
    rotate_left
    ·intro w';go_simp;try with_reducible rfl
    clear hcl hkn;intro hcl hkn
    try simp only[Bn]
    refine' B1 (i:=1) (v:=_) rfl (by kernel_rfl) (by kernel_rfl) (by kernel_rfl) hcl hkn (by rfl) (fun _ _ _ h=>h) rfl ?_ ?_
    rotate_left
    ·intro w';go_simp;try with_reducible rfl
    clear hcl hkn;intro hcl hkn
    try simp only[Bn]
    refine B1 (i:=2) (v:= .slice A s c) rfl (by kernel_rfl) (by kernel_rfl) (by kernel_rfl) hcl hkn (by rfl) (fun _ _ _ h=>h) rfl (fun w'=>by rw[←HHi.out];exact UY (.tmp 62) (.tmp 63) rfl rfl rfl hsc w') ?_;clear hcl hkn;intro hcl hkn
    try simp only[Bn]
    refine NB [4] 5 _ (i:=3) rfl (by kernel_rfl) (by kernel_rfl) (by kernel_rfl) hcl hkn (by rfl) 0 rfl (by kernel_rfl) 29 (.tmp 9) rfl ⟨z,0,none⟩ rfl (AE x v1 v2 v3) _ (fun w' hA=>MT ((HBx.out.drew.grew hA).rangeN 0 (AE x v1 v2 v3) rfl)) Tryz.underlying29 rfl AD (fun _ _ _ h=>h) rfl ?_;clear hcl hkn;intro hcl hkn
    try simp only[Bn]
    refine AV hcl (i:=4) (by kernel_rfl) rfl rfl (fun K hK=>?_);refine J8 (.tmp 65) rfl (k:=x.kind) (c1:= .int .i64 x.fn) (c2:= .int .i64 x.window) (c3:= .int .i64 x.offset) (c4:= .int .i64 x.k) (c5:= .int .i64 x.num) (c6:= .int .i64 x.den) (c7:= .string x.name) (c8:=v1) (c9:=v2) (vk:=v3) rfl ?_;refine hK _ _ (AJ (.inr ((Sa _).alloc _))) ?_;clear hK K;clear hcl hkn;intro hcl hkn
    try simp only[Bn]
    refine AV hcl (i:=5) (by kernel_rfl) rfl rfl (fun K hK=>?_);refine Po (.tmp 64) (.tmp 66) rfl rfl ((HMt.out.grew (HGx.out.trans gd2)).alloc _) rfl (Sc wc.drew 29 (AE x v1 v2 v3).toArray) HOx.out rfl (by rw[List.length_take];omega) (by have h1:=HGr.out.size;have h2:=(HGx.out.trans gd2).size;simp only[World.size_alloc];omega) ?_;intro v8 w8 hM8 k8 ho8;obtain⟨A8,n8,q8,rfl,hn8, -⟩:=hM8.slice;have HM8:=S9 (SC hM8 (SC hn8 (SC (show AC (fun i=>(Value.slice A s c).ownBlock=some i) (wc.drew.alloc (.cells (AE x v1 v2 v3).toArray 29)) w8 from k8) (show(Value.slice A8 n8 q8).ownBlock=(Value.slice A s c).ownBlock∨(Value.slice A8 n8 q8).ownBlock=some (wc.drew.alloc (.cells (AE x v1 v2 v3).toArray 29)).heap.size from ho8))));clear hM8 hn8 k8 ho8;refine hK _ _ (AJ (.inl (by kernel_rfl))) ?_;clear hK K;clear hcl hkn;intro hcl hkn
    try simp only[Bn]
    refine AV hcl (i:=6) (by kernel_rfl) rfl rfl (fun K hK=>?_);go_simp;refine hK _ _ (AJ (.inl (by kernel_rfl))) ?_;clear hK K;clear hcl hkn;intro hcl hkn
    try simp only[Bn]
    refine BK (by kernel_rfl) ?_ _;clear hcl hkn;go_wp2_with fail;go_roundw
    case rel=>
     obtain⟨hM8,hn8,k8,ho8⟩:=HM8.out;have htr:CL w8 (J6 0 w1.heap.size (.slice A8 n8 q8) w8.heap.size) (S++[x]) (rows.take s++[AE x v1 v2 v3]):=CL.step2 HTt.out HMt.out HGr.out.size (HGx.out.trans gd2) (by rw[U4 (UW A s (s+q) c c)];exact AW.keep (S:=fun _=>False) (fun b hb=>⟨hb.2.1,fun h=>h,hb⟩) gd2 _ _ HRx.out) k8 ho8;refine⟨j+1,n8,q8,A8,by omega,by go_num,rfl,?_,?_⟩
     ·rw[HS1.out,hn8,SX,SX,HQ.out.2,List.length_take,Nat.min_eq_left (by have:=HSq.out;omega)];rfl
     rw[HS1.out];exact⟨_,hM8,htr,Sb ((HGr.out.trans (HGx.out.trans gd2)).alloc _) k8 fun i hi e=>by have:=(HMt.out.lt i e).1;omega⟩
    case measure=>simp[intOf];omega
  obtain rfl:j=m:=by omega
  rw[List.take_of_length_le (by rw[HM.out];exact SD _),T5 e []]at hn hT;have hn1:n=1:=hn;subst hn1;have hr1:rows.length=1:=hT.1;obtain⟨cs,rfl⟩:∃cs,rows=[cs]:=by
   rcases rows with _|⟨r,_|⟨r2,rs⟩⟩
   ·simp at hr1
   ·exact⟨r,rfl⟩
   simp at hr1
  have hre:AW wr (J6 0 w1.heap.size (.slice A 1 c) wr.heap.size) e cs:=hT.2 0 e cs rfl rfl;obtain⟨A9,c9,e9, -,hx9⟩:=hM.rd;injection e9 with e1 e2 e3;subst e1;obtain⟨g,o,rfl,hgl,hcell⟩:=hx9 (by simp);have hrg:wr.rangeAt g o cs:=by simpa using hcell 0 cs rfl
  have hl:cs.length=11:=hM.2 cs List.mem_cons_self;have hone:∀v∈cs,v.oneCell'=true:=Al hre;have HRg:=S9 (fun w' (k:A5 wr w')=>show w'.rangeAt g o cs from Ao (S:=fun _=>False) hrg hgl k (fun h=>h));have HL:=S9 hl;have HOn:=S9 hone;have HRe:=S9 hre;have HGr:=S9 (HG1.out.trans hG);have HGw:=S9 hG;have HVx:=S9 (HVd.out _ HGr.out cs (AW.toB (fun b hb=>hb.2.1) _ _ HRe.out));clear hre hrg hcell hx9 hl hone hM hT hn hr1 hG e2 e3 hgl;go_wp2_with(first|((with_reducible refine AG 29 (.tmp 74) rfl ?_);refine wpList_load_mid rfl 29 (.tmp 74) rfl g o rfl cs _ (HRg.out _ (Sa _)) Tryz.underlying29 rfl (by rw[HL.out];exact AD) ?_)|(go_at_call 12;(with_reducible refine HVx.out.mono ?_);rintro e3 w3 ⟨rfl,k3⟩;have HG3:=S9 k3;have HB3:=S9 ((HB1.out.grew HGw.out).grew k3);clear k3)|((with_reducible refine AG 29 (.tmp 82) rfl ?_);refine wpList_load_mid rfl 29 (.tmp 82) rfl g o rfl cs _ (HRg.out _ HG3.out) Tryz.underlying29 rfl (by rw[HL.out];exact AD) ?_)|((with_reducible refine AF 29 (.tmp 2) (.tmp 83) rfl ?_);refine Ar 29 (.tmp 2) (.tmp 83) (w.heap.size) cs (AH 0 0) 29 (by rw[HL.out];exact AD) (by rw[HL.out];rfl) HOn.out rfl rfl rfl rfl HB3.out ?_;intro w8 hb8 k8 d8;have HB8:=S9 hb8;have HK8:=S9 k8;clear hb8 k8 d8));refine bodyPost_ret (AR rfl rfl rfl (by rw[HL.out];exact AD) Tryz.underlying29 rfl HB8.out) rfl ?_;refine⟨cs,rfl,AW.toB (fun b hb=>hb) _ _ (AW.keep (S:=fun i=>i=w.heap.size) (fun b hb=>⟨hb.2.1,?_,?_⟩) (Sb (HG3.out.keeps (S:=fun i=>i=w.heap.size)) HK8.out fun i _ h=>h) _ _ HRe.out),Sb (HGr.out.trans HG3.out) HK8.out fun i hi e=>by omega⟩
  ·have h1:=HB1.out.lt;rcases hb.1 with h|h<;>omega
  have h1:=HK8.out.size;have h2:=HG3.out.size;have:=hb.2.1;omega
theorem TF (e:Ex) (hok:BL Be e) (hv:Ca e=0) (w:World) (v:Value) (hwt:D5 w) (hp:Su w (fun b=>b<w.heap.size) v (M1 e)):
  Calls Tryz.prog 40 #[v] w fun e' w'=>e'= .returned (.int .i64 0)∧A5 w w':=by
 have HT:=S9 (UX e hok hv w v hwt hp);clear hp;go_enter Tryz.func40,Tryz.ntmps40;go_wp2_with(first|((with_reducible refine AF 29 (.tmp 3) (.tmp 8) rfl ?_);refine Ar 29 (.tmp 3) (.tmp 8) (w1.heap.size) cs (AH 0 0) 29 (by rw[HL.out];exact AD) (by rw[HL.out];rfl) HO.out rfl rfl rfl rfl (Sc w1 29 _) ?_;intro w6 hb6 k6 d6;have HG6:=S9 (Sb (HG1.out.alloc _) k6 (fun i hi e=>by have:=HG1.out.size;omega):A5 w w6);clear hb6 k6 d6)|(go_at_call 72;(with_reducible refine HT.out.mono ?_);rintro e1 w1 ⟨cs,rfl,hr,k1⟩;have HL:=S9 (BX hr);have HO:=S9 (Al (BZ.toQ (Q:=fun _=>True) (fun _ _=>trivial) _ _ hr));have HG1:=S9 k1;clear hr k1));go_ret;exact⟨rfl,HG6.out⟩
def Sq (x:Ex):Int:=if x.fn=0 then -x.offset else if x.fn=5∨x.fn=6 then -x.offset-x.window else -x.offset-(x.window-1)
def Ss (es:List Ex):Int:=es.foldl (fun r x=>if x.kind=1 then min r (Sq x)else r) 0
theorem Tt {x:Ex} (h:Bj x=0) (h1:x.kind=1):0≤x.offset∧x.offset≤4096∧0≤x.window∧x.window≤4096∧(x.fn≠0→1≤x.window):=by
 have hw:Ai x=true:=by
  unfold Bj at h;split at h
  ·cases h
  split at h
  ·cases h
  split at h
  ·cases h
  split at h
  ·cases h
  simpa using ‹¬Ai x=false›
 unfold Ai at hw;rw[SR h1]at hw;simp only[Bool.and_eq_true,decide_eq_true_eq]at hw;obtain⟨⟨h2,h3⟩,h4⟩:=hw;split at h4
 ·rename_i hf
  simp only[decide_eq_true_eq]at h4;exact⟨h2,h3,by omega,by omega,fun h=>absurd hf h⟩
 simp only[Bool.and_eq_true,decide_eq_true_eq]at h4;exact⟨h2,h3,by omega,by omega,fun _=>h4.1.1⟩
theorem TR (e:Ex) (hok:BL Be e) (hv:Ca e=0) (w:World) (v:Value) (hwt:D5 w) (hp:Su w (fun b=>b<w.heap.size) v (M1 e)):
  Calls Tryz.prog 19 #[v] w fun e' w'=>e'= .returned (.int .i64 (Ss (M1 e)))∧A5 w w':=by
 have hvv:AL e≤200∧BL QT e:=by
  unfold Ca at hv;split at hv
  ·simp at hv
  ·rename_i h9
   exact⟨by omega,BL.and (AL e) e (SD _) hok ((Eh (AL e) e (SD _)).1 hv)⟩
 have HGd:=S9 (T8 (AL e) e (SD _) hvv.2);have HCk:=S9 (TF e hok hv w v hwt hp);obtain⟨m,hm⟩:∃m,(M1 e).length=m:=⟨_,rfl⟩;have hm2:m≤200:=by rw[←hm,Sy];exact hvv.1
 have HM:=S9 hm;obtain⟨A0,n0,c0,rfl,hn0,hc0⟩:=hp.slice;rw[hm]at hn0;have hn9:=hn0.symm;subst hn9;have HP:=S9 hp;clear hok hv hwt hvv hm hp;go_enter Tryz.func19,Tryz.ntmps19;go_wp2_with(go_at_call 40;(with_reducible refine HCk.out.mono ?_);rintro e1 w1 ⟨rfl,k1⟩;have HG1:=S9 k1;clear k1);go_loopw [3,12] (fun s3 i wr=>∃(j:Nat) (r:Int),j≤m∧i= .int .i64 (j:Nat)∧s3= .int .i64 r∧r=Ss ((M1 e).take j)∧ -10000≤r∧r≤0∧A5 w wr) (fun _ i _=>m-(intOf i).toNat)
 case atStart=>exact⟨0,0,by omega,rfl,rfl,rfl,by omega,by omega,HG1.out⟩
 case round=>
  obtain⟨j,r,hj,rfl,rfl,hr,hr1,hr2,hG⟩:=hrel;have HR:=S9 hr;have HG:=S9 hG;clear hr hG HG1;by_cases hlt:j<m
  ·obtain⟨x,hx⟩:∃x,(M1 e)[j]? =some x:=⟨_,SF (by rw[HM.out];exact hlt)⟩;have hgd:=HGd.out x (SN hx);have gw:A5 w wr:=HG.out;obtain⟨b,o,cs,hA,hbl,hrg,hri⟩:=(HP.out.keep (S:=fun _=>False) (Q':=fun b=>b<wr.heap.size) (fun b hb=>⟨hb,fun h=>h,SE hb gw.size⟩) gw).at_ hx;subst hA;obtain⟨vm,vb,rfl,hms,hbs⟩:=hri;obtain⟨A1,n1,c1,rfl, -, -⟩:=hms.slice;obtain⟨A2,n2,c2,rfl, -, -⟩:=hbs.slice;have HRw:=S9 hrg;have HRi:=S9 (SC hms hbs);have HNd:=S9 hgd;have HS:=S9 (show Ss ((M1 e).take (j+1))=if x.kind=1 then min r (Sq x)else r by
    have hj':=(SK.1 hx).1;rw[←List.take_append_getElem hj',(SK.1 hx).2,HR.out];unfold Ss;rw[List.foldl_append];rfl)
   have hws:=fun h1=>Tt hgd.2 h1
   clear hx hrg hms hbs hgd hbl;obtain⟨k,hk⟩:∃k,x.kind=k:=⟨_,rfl⟩;go_upto_region 7 with(first|((with_reducible refine AG 79 (.tmp 14) rfl ?_);refine wpList_load_mid rfl 79 (.tmp 14) rfl b (o+j*10) rfl (P4 x (.slice A1 n1 c1) (.slice A2 n2 c2)) _ HRw.out Tryz.underlying79 rfl T0 ?_)|((with_reducible refine AF 79 (.tmp 5) (.tmp 15) rfl ?_);refine Ar 79 (.tmp 5) (.tmp 15) (wr.heap.size) (P4 x (.slice A1 n1 c1) (.slice A2 n2 c2)) Uy 79 T0 rfl (Ta _ _ _ _ _ _ _) rfl rfl rfl rfl (Sc wr 79 _) ?_;intro w6 hb6 k6 d6;have g6:A5 wr w6:=Sb ((Sa wr).alloc _) k6 (fun i hi e=>by omega);have HB6:=S9 hb6;have HG6:=S9 g6;have c0:w6.cell? ⟨wr.heap.size,0,none⟩=some (.int .i64 x.kind):=hb6.cell 0;have e1:w6.cell? ⟨wr.heap.size,1,none⟩=some (.int .i64 x.fn):=hb6.cell 1;have e2:w6.cell? ⟨wr.heap.size,2,none⟩=some (.int .i64 x.window):=hb6.cell 2;have e3:w6.cell? ⟨wr.heap.size,3,none⟩=some (.int .i64 x.offset):=hb6.cell 3;clear hb6 k6 d6 g6));rw[hk]at c0;rw[hk]at HS hws;clear hk;by_cases h1:k=1
   ·subst h1;obtain⟨o1,o2,o3,o4,o5⟩:=hws rfl;rw[SR rfl]at HS;unfold Sq at HS;generalize x.fn=fn at*;generalize x.offset=of at*;generalize x.window=wd at*;by_cases f0:fn=0
    ·subst f0;rw[SR rfl]at HS;go_wp2_with fail;go_roundw
     case rel=>exact⟨j+1,min r (-of),by omega,by go_num,rfl,HS.out.symm,by omega,by omega,HG.out.trans HG6.out⟩
     case measure=>simp[intOf];omega
    by_cases f5:fn=5
    ·subst f5;rw[SQ (by decide),SR (.inl rfl)]at HS;go_wp2_with fail;go_roundw
     case rel=>exact⟨j+1,min r (-of-wd),by omega,by go_num,rfl,HS.out.symm,by omega,by omega,HG.out.trans HG6.out⟩
     case measure=>simp[intOf];omega
    by_cases f6:fn=6
    ·subst f6;rw[SQ (by decide),SR (.inr rfl)]at HS;go_wp2_with fail;go_roundw
     case rel=>exact⟨j+1,min r (-of-wd),by omega,by go_num,rfl,HS.out.symm,by omega,by omega,HG.out.trans HG6.out⟩
     case measure=>simp[intOf];omega
    rw[SQ f0,SQ (by omega)]at HS;have t0:(fn==0)=false:=by rw[SA];exact f0
    have t5:(fn==5)=false:=by rw[SA];exact f5
    have t6:(fn==6)=false:=by rw[SA];exact f6
    have o6:=o5 f0;go_wp2_with fail;go_roundw
    case rel=>exact⟨j+1,min r (-of-(wd-1)),by omega,by go_num,rfl,HS.out.symm,by omega,by omega,HG.out.trans HG6.out⟩
    case measure=>simp[intOf];omega
   have t1:(k==1)=false:=by rw[SA];exact h1
   rw[SQ h1]at HS;go_wp2_with fail;go_roundw
   case rel=>exact⟨j+1,r,by omega,by go_num,rfl,HS.out.symm,hr1,hr2,HG.out.trans HG6.out⟩
   case measure=>simp[intOf];omega
  obtain rfl:j=m:=by omega
  have hrr:Ss (M1 e)=r:=by rw[HR.out,List.take_of_length_le (by rw[HM.out];exact SD _)]
  have HRR:=S9 hrr;go_wp2_with fail;go_ret;exact⟨by rw[HRR.out];rfl,HG.out⟩
end Go.Proofs.YthpflelgbadkcaaGreatDoor
