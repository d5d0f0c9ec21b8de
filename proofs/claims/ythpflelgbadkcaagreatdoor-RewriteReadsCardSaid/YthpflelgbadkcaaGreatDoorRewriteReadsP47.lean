/- What the card of the law stands on: PlUses, SetL, Rws. -/
import Derived.Test.YthpflelgbadkcaaGreatDoorRewriteReadsP01
import Derived.Test.YthpflelgbadkcaaGreatDoorRewriteReadsP45
import Derived.Test.YthpflelgbadkcaaGreatDoorRewriteReadsP46
import Derived.Test.YthpflelgbadkcaaGreatDoorRewriteReadsP08
import Derived.Test.YthpflelgbadkcaaGreatDoorRewriteReadsP44
import Derived.Test.YthpflelgbadkcaaGreatDoorRewriteReadsP06
set_option maxRecDepth 100000
set_option maxHeartbeats 12800000
set_option linter.unusedVariables false
set_option linter.unusedSimpArgs false
namespace Go.Proofs.YthpflelgbadkcaaGreatDoor
open Go.RowKit Go.Shelf Pl
attribute [local go_sem] Oper.semAt_some
theorem Td (e:Ex) (hok:BL Be e) (hv:Ca e=0) (w:World) (v u:Value) (ds:List VA) (hwt:D5 w) (hp:Su w (fun b=>b<w.heap.size) v (M1 e)) (hd:TG w (fun b=>b<w.heap.size) u ds) (hdn:ds.length≤1000) (hls:∀d∈ds,d.2.length≤1000000):
  Calls Tryz.prog 20 #[v,u] w fun e' w'=>∃g,e'= .returned (.slice (some ⟨g,0,none⟩) ds.length ds.length)∧Ag w' g 3 ((TA ds (M1 e)).map Ud).toArray∧w.heap.size≤g∧A5 w w':=by
 have hvv:AL e≤200∧BL QT e:=by
  unfold Ca at hv;split at hv
  ·simp at hv
  ·rename_i h9
   exact⟨by omega,BL.and (AL e) e (SD _) hok ((Eh (AL e) e (SD _)).1 hv)⟩
 have HGd:=S9 (T8 (AL e) e (SD _) hvv.2);have HCk:=S9 (TF e hok hv w v hwt hp);obtain⟨m,hm⟩:∃m,(M1 e).length=m:=⟨_,rfl⟩;have hm2:m≤200:=by rw[←hm,Sy];exact hvv.1
 have HM:=S9 hm;obtain⟨A0,n0,c0,rfl,hn0,hc0⟩:=hp.slice;rw[hm]at hn0;have hn9:=hn0.symm;subst hn9;have HP:=S9 hp;obtain⟨A9,n9,c9,rfl,hn9,hc9⟩:=hd.slice;obtain⟨n,hn⟩:∃n,ds.length=n:=⟨_,rfl⟩;rw[hn]at hn9 hdn ⊢;subst hn9;have HN:=S9 hn;have HD:=S9 hd;have HLs:=S9 hls;clear hok hv hwt hvv hm hp hn hd hls;go_enter Tryz.func20,Tryz.ntmps20;go_wp2_with(first|(go_at_call 40;(with_reducible refine HCk.out.mono ?_);rintro e1 w1 ⟨rfl,k1⟩;have HG1:=S9 k1;clear k1)|((with_reducible refine Jo 22 (.tmp 13) (.tmp 13) rfl ?_);refine UI rfl (.tmp 13) (.tmp 13) rfl n9 rfl rfl (by omega) ?_;intro w2 hb2 k2;have HB2:=S9 hb2;have HG2:=S9 (HG1.out.trans k2);have hg0:=HG1.out.size;clear hb2 k2));obtain⟨g,hg⟩:∃g,w1.heap.size=g:=⟨_,rfl⟩;rw[hg]at HB2 hg0 ⊢;clear hg HG1;have h00:(List.replicate n9 0)=TA ds []:=by rw[←HN.out];unfold TA So;simp[List.map_const']
 rw[h00]at HB2;clear h00;go_loopw [17] (fun i wr=>∃(j:Nat),j≤m∧i= .int .i64 (j:Nat)∧Ag wr g 3 ((TA ds ((M1 e).take j)).map Ud).toArray∧A5 w wr) (fun i _=>m-(intOf i).toNat)
 case atStart=>exact⟨0,by omega,rfl,HB2.out,HG2.out⟩
 case round=>
  obtain⟨j,hj,rfl,hB,hG⟩:=hrel;have HB:=S9 hB;have HG:=S9 hG;clear hB hG HB2 HG2;by_cases hlt:j<m
  ·obtain⟨x,hx⟩:∃x,(M1 e)[j]? =some x:=⟨_,SF (by rw[HM.out];exact hlt)⟩;have hgd:=HGd.out x (SN hx);obtain⟨b,o,cs,hA,hbl,hrg,hri⟩:=HP.out.at_ hx;subst hA;obtain⟨vm,vb,rfl,hms,hbs⟩:=hri;obtain⟨A1,n1,c1,rfl, -, -⟩:=hms.slice;obtain⟨A2,n2,c2,rfl, -, -⟩:=hbs.slice;have HRw:=S9 (Ao (S:=fun _=>False) hrg hbl HG.out (fun h=>h));have HRi:=S9 hms;have HXl:=S9 (show x.ms.length≤1000000 from SH hgd.1.2.2.2.2.1 (by decide));have HT1:=S9 (show(M1 e).take (j+1)=(M1 e).take j++[x] by
    have hj':=(SK.1 hx).1;rw[←List.take_append_getElem hj',(SK.1 hx).2])
   clear hx hrg hms hbs hgd hbl;go_upto_region 7 with(first|((with_reducible refine AG 79 (.tmp 19) rfl ?_);refine wpList_load_mid rfl 79 (.tmp 19) rfl b (o+j*10) rfl (P4 x (.slice A1 n1 c1) (.slice A2 n2 c2)) _ HRw.out Tryz.underlying79 rfl T0 ?_)|((with_reducible refine AF 79 (.tmp 7) (.tmp 20) rfl ?_);refine Ar 79 (.tmp 7) (.tmp 20) (wr.heap.size) (P4 x (.slice A1 n1 c1) (.slice A2 n2 c2)) Uy 79 T0 rfl (Ta _ _ _ _ _ _ _) rfl rfl rfl rfl (Sc wr 79 _) ?_;intro w6 hb6 k6 d6;have g6:A5 wr w6:=Sb ((Sa wr).alloc _) k6 (fun i hi e=>by omega);have HB6:=S9 hb6;have HG6:=S9 g6;have c0:w6.cell? ⟨wr.heap.size,0,none⟩=some (.int .i64 x.kind):=hb6.cell 0;have e1:w6.cell? ⟨wr.heap.size,1,none⟩=some (.int .i64 x.fn):=hb6.cell 1;have e2:w6.cell? ⟨wr.heap.size,2,none⟩=some (.int .i64 x.window):=hb6.cell 2;have e3:w6.cell? ⟨wr.heap.size,3,none⟩=some (.int .i64 x.offset):=hb6.cell 3;clear hb6 k6 d6 g6));clear e1 e2 e3;have HXb:=HB6;obtain⟨z,hz⟩:∃z,wr.heap.size=z:=⟨_,rfl⟩;have hzg:g<z:=by rw[←hz];exact HB.out.lt
   rw[hz]at c0 HXb ⊢;by_cases h1:x.kind=1
   ·rw[h1]at c0;go_wp2_with fail;have hxx:=HXb.out;have hbb:=HB.out.grew HG6.out;have hgg:=HG.out.trans HG6.out;go_loopw [26] (fun i wq=>∃(k:Nat),k≤n9∧i= .int .i64 (k:Nat)∧Ag wq g 3 ((TI ds ((M1 e).take (j+1)) ((M1 e).take j) k).map Ud).toArray∧Ag wq z 79 (P4 x (.slice A1 n1 c1) (.slice A2 n2 c2)).toArray∧A5 w wq) (fun i _=>n9-(intOf i).toNat)
    case atStart=>exact⟨0,by omega,rfl,by rw[UA];exact hbb,hxx,hgg⟩
    case round=>
     obtain⟨k,hk,rfl,hbq,hxq,hgq⟩:=hrel;have HBq:=S9 hbq;have HXq:=S9 hxq;have HGq:=S9 hgq;clear hbq hxq hgq hxx hbb hgg;by_cases hkl:k<n9
     ·obtain⟨d,hd⟩:∃d,ds[k]? =some d:=⟨_,SF (by rw[HN.out];exact hkl)⟩;have HDk:=S9 hd;obtain⟨b2,o2,cs2,hA2,hbl2,hrg2,hrd2⟩:=HD.out.at_ hd;subst hA2;obtain⟨vl,y,rfl,hlb⟩:=hrd2;have gd:A5 wr wr.drew:=Sd (Sa wr);have HDr:=S9 (fun w' (hA:A5 wr.drew w')=>Ao (S:=fun _=>False) hrg2 hbl2 (HGq.out.trans (gd.trans hA)) (fun h=>h));have HXr:=S9 (fun w' (hA:A5 wr.drew w')=>HXq.out.grew (gd.trans hA));have HMt:=S9 (UF d.2 x.ms vl (.slice A1 n1 c1) wr.drew (Ch.keep (hlb.toB (B:=w.heap.size) (fun b h=>h)) (SD _) (HGq.out.trans gd).size (HGq.out.trans gd) (fun _ _ h=>h)) (HLs.out d (SN hd)) (Ch.keep (HRi.out.toB (B:=w.heap.size) (fun b h=>h)) (SD _) (HGq.out.trans gd).size (HGq.out.trans gd) (fun _ _ h=>h)) HXl.out);obtain⟨p,hp⟩:∃p,TW d.2 x.ms=p:=⟨_,rfl⟩;rw[hp]at HMt;have HP1:=S9 hp;have HK1:=S9 h1;clear hd hbl2 hrg2 hlb hp;obtain⟨q,hq⟩:∃q,(d.1.toList==x.name.toList)=q:=⟨_,rfl⟩;have HQ:=S9 hq;go_upto_region 11 with fail;cases q
      ·have hne:¬(d.1.toList=x.name.toList):=by simpa using hq
       have HSm:=S9 (show So d ((M1 e).take (j+1))=So d ((M1 e).take j) by rw[HT1.out,Sz];unfold Tf;simp[HQ.out]);clear hq;refine B8 [(17,fun w'=>A5 wr.drew w')] (by kernel_rfl) (by intro pp hp;obtain rfl:=SJ.1 hp;exact Sa _) ?_;intro hcl hkn
       try simp only[Bn]
       refine' B1 (i:=0) (v:=_) rfl (by kernel_rfl) (by kernel_rfl) (by kernel_rfl) hcl hkn (by rfl) (fun _ _ _ h=>h) rfl ?_ ?_
       rotate_left
       ·intro w';go_simp;try with_reducible rfl
       clear hcl hkn;intro hcl hkn
       try simp only[Bn]
       refine' B1 (i:=1) (v:=_) rfl (by kernel_rfl) (by kernel_rfl) (by kernel_rfl) hcl hkn (by rfl) (fun _ _ _ h=>h) rfl ?_ ?_
       rotate_left
       ·intro w';go_simp;try with_reducible rfl
       clear hcl hkn;intro hcl hkn
       try simp only[Bn]
       refine' B1 (i:=2) (v:=_) rfl (by kernel_rfl) (by kernel_rfl) (by kernel_rfl) hcl hkn (by rfl) (fun _ _ _ h=>h) rfl ?_ ?_
       rotate_left
       ·intro w';go_simp;try with_reducible rfl
       clear hcl hkn;intro hcl hkn
       try simp only[Bn]
       refine' B1 (i:=3) (v:=_) rfl (by kernel_rfl) (by kernel_rfl) (by kernel_rfl) hcl hkn (by rfl) (fun _ _ _ h=>h) rfl ?_ ?_
       rotate_left
       ·intro w';go_simp;try with_reducible rfl
       clear hcl hkn;intro hcl hkn
       try simp only[Bn]
       refine' Fq [16,8,7] 17 _ (i:=4) (v:=_) rfl (by kernel_rfl) (by kernel_rfl) (by kernel_rfl) hcl hkn (by rfl) 0 rfl (by kernel_rfl) (fun _ _ _ h=>h) rfl ?_ ?_
       rotate_left
       ·intro w' hA;have hc:w'.cell? ⟨b2,o2+k*12,none⟩=some (.string d.1):=(by have:=HDr.out _ hA 0 _ rfl;simpa using this);go_simp;try with_reducible rfl
       clear hcl hkn;intro hcl hkn
       try simp only[Bn]
       refine' B1 (i:=5) (v:=_) rfl (by kernel_rfl) (by kernel_rfl) (by kernel_rfl) hcl hkn (by rfl) (fun _ _ _ h=>h) rfl ?_ ?_
       rotate_left
       ·intro w';go_simp;try with_reducible rfl
       clear hcl hkn;intro hcl hkn
       try simp only[Bn]
       refine' Fq [16,8,7] 17 _ (i:=6) (v:=_) rfl (by kernel_rfl) (by kernel_rfl) (by kernel_rfl) hcl hkn (by rfl) 0 rfl (by kernel_rfl) (fun _ _ _ h=>h) rfl ?_ ?_
       rotate_left
       ·intro w' hA;have hc:w'.cell? ⟨z,7,none⟩=some (.string x.name):=(HXr.out _ hA).cell 7;go_simp;try with_reducible rfl
       clear hcl hkn;intro hcl hkn
       try simp only[Bn]
       refine' B1 (i:=7) (v:= .bool false) rfl (by kernel_rfl) (by kernel_rfl) (by kernel_rfl) hcl hkn (by rfl) (fun _ _ _ h=>h) rfl ?_ ?_
       ·intro w';go_simp
       clear hcl hkn;intro hcl hkn
       try simp only[Bn]
       refine' B1 (i:=8) (v:=_) rfl (by kernel_rfl) (by kernel_rfl) (by kernel_rfl) hcl hkn (by rfl) (fun _ _ _ h=>h) rfl ?_ ?_
       rotate_left
       ·intro w';go_simp;try with_reducible rfl
       clear hcl hkn;intro hcl hkn
       try simp only[Bn]
       refine Sl (i:=9) rfl (by kernel_rfl) (by kernel_rfl) (by kernel_rfl) hcl hkn (by rfl) (fun _ _ _ h=>h) (by kernel_rfl) ?_;clear hcl hkn;intro hcl hkn
       try simp only[Bn]
       refine Sl (i:=10) rfl (by kernel_rfl) (by kernel_rfl) (by kernel_rfl) hcl hkn (by rfl) (fun _ _ _ h=>h) (by kernel_rfl) ?_;clear hcl hkn;intro hcl hkn
       try simp only[Bn]
       refine Sl (i:=11) rfl (by kernel_rfl) (by kernel_rfl) (by kernel_rfl) hcl hkn (by rfl) (fun _ _ _ h=>h) (by kernel_rfl) ?_;clear hcl hkn;intro hcl hkn
       try simp only[Bn]
       refine Sl (i:=12) rfl (by kernel_rfl) (by kernel_rfl) (by kernel_rfl) hcl hkn (by rfl) (fun _ _ _ h=>h) (by kernel_rfl) ?_;clear hcl hkn;intro hcl hkn
       try simp only[Bn]
       refine Sl (i:=13) rfl (by kernel_rfl) (by kernel_rfl) (by kernel_rfl) hcl hkn (by rfl) (fun _ _ _ h=>h) (by kernel_rfl) ?_;clear hcl hkn;intro hcl hkn
       try simp only[Bn]
       refine Sl (i:=14) rfl (by kernel_rfl) (by kernel_rfl) (by kernel_rfl) hcl hkn (by rfl) (fun _ _ _ h=>h) (by kernel_rfl) ?_;clear hcl hkn;intro hcl hkn
       try simp only[Bn]
       refine Sl (i:=15) rfl (by kernel_rfl) (by kernel_rfl) (by kernel_rfl) hcl hkn (by rfl) (fun _ _ _ h=>h) (by kernel_rfl) ?_;clear hcl hkn;intro hcl hkn
       try simp only[Bn]
       refine Sl (i:=16) rfl (by kernel_rfl) (by kernel_rfl) (by kernel_rfl) hcl hkn (by rfl) (fun _ _ _ h=>h) (by kernel_rfl) ?_;clear hcl hkn;intro hcl hkn
       try simp only[Bn]
       refine AV hcl (i:=17) (by kernel_rfl) rfl rfl (fun K hK=>?_);go_simp;refine hK _ _ (AJ (.inl (by kernel_rfl))) ?_;clear hK K;clear hcl hkn;intro hcl hkn
       try simp only[Bn]
       refine BK (by kernel_rfl) ?_ _;clear hcl hkn;go_wp2_with fail;go_roundw
       case rel=>exact⟨k+1,by omega,by go_num,by rw[TU HDk.out HSm.out];exact HBq.out.drew,HXq.out.drew,HGq.out.trans gd⟩
       case measure=>simp[intOf];omega
      have hne:d.1.toList=x.name.toList:=by simpa using hq
      clear hq;refine B8 [(16,fun w'=>A5 wr.drew w')] (by kernel_rfl) (by intro pp hp;obtain rfl:=SJ.1 hp;exact Sa _) ?_;intro hcl hkn
      try simp only[Bn]
      refine' B1 (i:=0) (v:=_) rfl (by kernel_rfl) (by kernel_rfl) (by kernel_rfl) hcl hkn (by rfl) (fun _ _ _ h=>h) rfl ?_ ?_
      rotate_left
      ·intro w';go_simp;try with_reducible rfl
      clear hcl hkn;intro hcl hkn
      try simp only[Bn]
      refine' B1 (i:=1) (v:=_) rfl (by kernel_rfl) (by kernel_rfl) (by kernel_rfl) hcl hkn (by rfl) (fun _ _ _ h=>h) rfl ?_ ?_
      rotate_left
      ·intro w';go_simp;try with_reducible rfl
      clear hcl hkn;intro hcl hkn
      try simp only[Bn]
      refine' B1 (i:=2) (v:=_) rfl (by kernel_rfl) (by kernel_rfl) (by kernel_rfl) hcl hkn (by rfl) (fun _ _ _ h=>h) rfl ?_ ?_
      rotate_left
      ·intro w';go_simp;try with_reducible rfl
      clear hcl hkn;intro hcl hkn
      try simp only[Bn]
      refine' B1 (i:=3) (v:=_) rfl (by kernel_rfl) (by kernel_rfl) (by kernel_rfl) hcl hkn (by rfl) (fun _ _ _ h=>h) rfl ?_ ?_
      rotate_left
      ·intro w';go_simp;try with_reducible rfl
      clear hcl hkn;intro hcl hkn
      try simp only[Bn]
      refine' Fq [8,7] 16 _ (i:=4) (v:=_) rfl (by kernel_rfl) (by kernel_rfl) (by kernel_rfl) hcl hkn (by rfl) 0 rfl (by kernel_rfl) (fun _ _ _ h=>h) rfl ?_ ?_
      rotate_left
      ·intro w' hA;have hc:w'.cell? ⟨b2,o2+k*12,none⟩=some (.string d.1):=(by have:=HDr.out _ hA 0 _ rfl;simpa using this);go_simp;try with_reducible rfl
      clear hcl hkn;intro hcl hkn
      try simp only[Bn]
      refine' B1 (i:=5) (v:=_) rfl (by kernel_rfl) (by kernel_rfl) (by kernel_rfl) hcl hkn (by rfl) (fun _ _ _ h=>h) rfl ?_ ?_
      rotate_left
      ·intro w';go_simp;try with_reducible rfl
      clear hcl hkn;intro hcl hkn
      try simp only[Bn]
      refine' Fq [8,7] 16 _ (i:=6) (v:=_) rfl (by kernel_rfl) (by kernel_rfl) (by kernel_rfl) hcl hkn (by rfl) 0 rfl (by kernel_rfl) (fun _ _ _ h=>h) rfl ?_ ?_
      rotate_left
      ·intro w' hA;have hc:w'.cell? ⟨z,7,none⟩=some (.string x.name):=(HXr.out _ hA).cell 7;go_simp;try with_reducible rfl
      clear hcl hkn;intro hcl hkn
      try simp only[Bn]
      refine' B1 (i:=7) (v:= .bool true) rfl (by kernel_rfl) (by kernel_rfl) (by kernel_rfl) hcl hkn (by rfl) (fun _ _ _ h=>h) rfl ?_ ?_
      ·intro w';go_simp
      clear hcl hkn;intro hcl hkn
      try simp only[Bn]
      refine' B1 (i:=8) (v:=_) rfl (by kernel_rfl) (by kernel_rfl) (by kernel_rfl) hcl hkn (by rfl) (fun _ _ _ h=>h) rfl ?_ ?_
      rotate_left
      ·intro w';go_simp;try with_reducible rfl
      clear hcl hkn;intro hcl hkn
      try simp only[Bn]
      refine' Sm [13,12,11] 16 _ (i:=9) (v:=_) rfl (by kernel_rfl) (by kernel_rfl) (by kernel_rfl) hcl hkn (by rfl) 0 rfl (by kernel_rfl) (fun _ _ _ h=>h) (by kernel_rfl) ?_ ?_
      rotate_left
      ·intro w' hA;clear hA;go_simp;try with_reducible rfl
      clear hcl hkn;intro hcl hkn
      try simp only[Bn]
      refine' Sm [13,12,11] 16 _ (i:=10) (v:=_) rfl (by kernel_rfl) (by kernel_rfl) (by kernel_rfl) hcl hkn (by rfl) 0 rfl (by kernel_rfl) (fun _ _ _ h=>h) (by kernel_rfl) ?_ ?_
      rotate_left
      ·intro w' hA;clear hA;go_simp;try with_reducible rfl
      clear hcl hkn;intro hcl hkn
      try simp only[Bn]
      refine' Sm [13,12] 16 _ (i:=11) (v:=_) rfl (by kernel_rfl) (by kernel_rfl) (by kernel_rfl) hcl hkn (by rfl) 0 rfl (by kernel_rfl) (fun _ _ _ h=>h) (by kernel_rfl) ?_ ?_
      rotate_left
      ·intro w' hA;clear hA;go_simp;try with_reducible rfl
      clear hcl hkn;intro hcl hkn
      try simp only[Bn]
      refine' Sm [13] 16 _ (i:=12) (v:=_) rfl (by kernel_rfl) (by kernel_rfl) (by kernel_rfl) hcl hkn (by rfl) 0 rfl (by kernel_rfl) (fun _ _ _ h=>h) (by kernel_rfl) ?_ ?_
      rotate_left
      ·intro w' hA;clear hA;go_simp;try with_reducible rfl
      clear hcl hkn;intro hcl hkn
      try simp only[Bn]
      refine' Sm [] 16 _ (i:=13) (v:=_) rfl (by kernel_rfl) (by kernel_rfl) (by kernel_rfl) hcl hkn (by rfl) 0 rfl (by kernel_rfl) (fun _ _ _ h=>h) (by kernel_rfl) ?_ ?_
      rotate_left
      ·intro w' hA;have hc:w'.cell? ⟨b2,o2+k*12+1,none⟩=some vl:=(by have:=HDr.out _ hA 1 _ rfl;simpa using this);go_simp;try with_reducible rfl
      clear hcl hkn;intro hcl hkn
      try simp only[Bn]
      refine' Sm [15] 16 _ (i:=14) (v:=_) rfl (by kernel_rfl) (by kernel_rfl) (by kernel_rfl) hcl hkn (by rfl) 0 rfl (by kernel_rfl) (fun _ _ _ h=>h) (by kernel_rfl) ?_ ?_
      rotate_left
      ·intro w' hA;clear hA;go_simp;try with_reducible rfl
      clear hcl hkn;intro hcl hkn
      try simp only[Bn]
      refine' Sm [] 16 _ (i:=15) (v:=_) rfl (by kernel_rfl) (by kernel_rfl) (by kernel_rfl) hcl hkn (by rfl) 0 rfl (by kernel_rfl) (fun _ _ _ h=>h) (by kernel_rfl) ?_ ?_
      rotate_left
      ·intro w' hA;have hc:w'.cell? ⟨z,8,none⟩=some (.slice A1 n1 c1):=(HXr.out _ hA).cell 8;go_simp;try with_reducible rfl
      clear hcl hkn;intro hcl hkn
      try simp only[Bn]
      refine AZ hcl (i:=16) (by kernel_rfl) rfl (by kernel_rfl) (fun K hK=>?_);go_simp;(with_reducible refine HMt.out.mono ?_);rintro e7 w7 ⟨rfl,k7⟩;refine hK _ _ (AJ (.inl (by kernel_rfl))) ?_;clear hK K;clear hcl hkn;intro hcl hkn
      try simp only[Bn]
      refine AV hcl (i:=17) (by kernel_rfl) rfl rfl (fun K hK=>?_);go_simp;refine hK _ _ (AJ (.inl (by kernel_rfl))) ?_;clear hK K;clear hcl hkn;intro hcl hkn
      try simp only[Bn]
      refine BK (by kernel_rfl) ?_ _;clear hcl hkn;have HG7:=S9 k7;clear k7;cases p
      ·have HSm:=S9 (show So d ((M1 e).take (j+1))=So d ((M1 e).take j) by rw[HT1.out,Sz];unfold Tf;simp[HP1.out]);go_wp2_with fail;go_roundw
       case rel=>exact⟨k+1,by omega,by go_num,by rw[TU HDk.out HSm.out];exact HBq.out.drew.grew HG7.out,HXq.out.drew.grew HG7.out,(HGq.out.trans gd).trans HG7.out⟩
       case measure=>simp[intOf];omega
      have HSm:=S9 (show So d ((M1 e).take (j+1))=So d ((M1 e).take j)+1 by rw[HT1.out,Sz];unfold Tf;simp[HP1.out,HQ.out,HK1.out]);have hb7:=HBq.out.drew.grew HG7.out;have hcl:So d ((M1 e).take j)≤200:=by have:=Uo d ((M1 e).take j);rw[List.length_take]at this;omega
      have hcc:w7.cell? ⟨g,k,none⟩=some (.int .i64 (So d ((M1 e).take j):Nat)):=by
       rw[hb7.cell,List.getElem?_toArray,List.getElem?_map,Tw HDk.out];rfl
      have hff:w7.frozen? ⟨g,k,none⟩=false:=hb7.frozen k;have hkz:z≠g:=by omega
      have HX7:=S9 (HXq.out.drew.grew HG7.out);have HG8:=S9 ((HGq.out.trans gd).trans HG7.out);have HB7:=S9 hb7;generalize So d ((M1 e).take j)=cn at*;clear hb7;go_wp2_with fail;go_roundw
      case rel=>exact⟨k+1,by omega,by go_num,by rw[TS HDk.out,HSm.out];exact Uj (c:=cn+1) HB7.out,HX7.out.far hkz _,Sf HG8.out (.inr (by show w.heap.size≤g;omega)) _⟩
      case measure=>simp[intOf];omega
     obtain rfl:k=n9:=by omega
     have HFull:=S9 (UH ds ((M1 e).take (j+1)) ((M1 e).take j));have hb9:=HBq.out;rw[←HN.out,HFull.out]at hb9;have HB9:=S9 hb9;clear hb9;go_wp2_with fail;go_roundw
     case rel=>exact⟨j+1,by omega,by go_num,HB9.out,HGq.out⟩
     case measure=>simp[intOf];omega
   have t1:(x.kind==1)=false:=by rw[SA];exact h1
   have HEq:=S9 (show TA ds ((M1 e).take (j+1))=TA ds ((M1 e).take j) by
    rw[HT1.out];unfold TA;apply List.map_congr_left;intro d _;rw[Sz];unfold Tf;simp[h1])
   go_wp2_with fail;go_roundw
   case rel=>exact⟨j+1,by omega,by go_num,by rw[HEq.out];exact HB.out.grew HG6.out,HG.out.trans HG6.out⟩
   case measure=>simp[intOf];omega
  obtain rfl:j=m:=by omega
  have HEq:=S9 (show(M1 e).take j=M1 e from List.take_of_length_le (by rw[HM.out];exact SD _));have hB:=HB.out;rw[HEq.out]at hB;have HB8:=S9 hB;clear hB;go_wp2_with fail;go_ret;exact⟨g,rfl,HB8.out,hg0,HG.out⟩
def V6:List ByteArray:=[⟨#[97]⟩,⟨#[97,98]⟩,⟨#[98]⟩,⟨#[106,111,98]⟩,⟨#[120,95,49]⟩,⟨#[122,111,110,101]⟩]
def V5:List ByteArray:=[⟨#[97]⟩,⟨#[97,98]⟩,⟨#[98]⟩,⟨#[120,49]⟩,⟨#[126,33]⟩,⟨#[48]⟩]
theorem Ui (w:World):Calls Tryz.prog 68 #[] w fun e' w'=>e'= .returned (.slice (some ⟨w.heap.size,0,none⟩) 6 6)∧Ag w' w.heap.size 9 (V6.map Value.string).toArray∧A5 w w':=by
 have hb:=Sc w 9 ((V6.map Value.string).toArray);have hG:=(Sa w).alloc (.cells ((V6.map Value.string).toArray) 9);go_enter Tryz.func68,Tryz.ntmps68;go_wp2_with fail;go_ret;exact⟨rfl,hb,hG⟩
theorem Ug (w:World):Calls Tryz.prog 69 #[] w fun e' w'=>e'= .returned (.slice (some ⟨w.heap.size,0,none⟩) 6 6)∧Ag w' w.heap.size 9 (V5.map Value.string).toArray∧A5 w w':=by
 have hb:=Sc w 9 ((V5.map Value.string).toArray);have hG:=(Sa w).alloc (.cells ((V5.map Value.string).toArray) 9);go_enter Tryz.func69,Tryz.ntmps69;go_wp2_with fail;go_ret;exact⟨rfl,hb,hG⟩
theorem V1:P7 Tryz.prog 52 117 2 32 (.agg #[.string ⟨#[]⟩,.string ⟨#[]⟩]):=⟨Tryz.underlying52,by kernel_rfl,rfl,by decide,by decide⟩
theorem UP (a b:ByteArray) (W:World):(Instr.build 117 #[(0,.string a),(1,.string b)]).run Tryz.prog W= .ok (.agg #[.string a,.string b]) W:=by kernel_rfl
theorem U6 (l:ByteArray×ByteArray):Instr.fill (fun i=>some (i*2,2)) ((Array.range (1*2)).map ((Value.agg #[.string ⟨#[]⟩,.string ⟨#[]⟩]).cells[·%(Value.agg #[.string ⟨#[]⟩,.string ⟨#[]⟩]).cells.size]!)) [(0,.agg (Sj l).toArray)]=some (Sj l).toArray:=by kernel_rfl
theorem TO {o:Oper} {a:Act} {w:World} {K:Act→World→Prop} {Q:Exit→Act→World→Prop} (x:Operand) (ho:o.op= .buildSlice 52 1 #[(0,x)]) {l:ByteArray×ByteArray} (hx:a.eval x= .agg (Sj l).toArray)
  (h:K (a.put o.dst (.slice (some ⟨w.heap.size,0,none⟩) 1 1)) (w.alloc (.cells (Sj l).toArray 117))):o.wp Tryz.prog a w K Q:=by
 obtain⟨i,hi,hz,hs,hby⟩:=info_parts V1.info;refine wp_buildSlice 52 117 1 #[(0,x)] ho (Sj l).toArray i (.agg #[.string ⟨#[]⟩,.string ⟨#[]⟩]) Tryz.underlying52 hi hz (by rw[hs];decide) (by rw[hs];decide) ?_ h;rw[hs];simp only[List.map_toArray,List.map_cons,List.map_nil,hx];exact U6 l
def Un (w:World) (e:Ending) (w':World):Prop:=∃(v:Value) (ls:List (ByteArray×ByteArray)),e= .returned v∧C0 w' (CW 0 w.heap.size w'.heap.size) 2 v (ls.map Sj)∧ls.length≤6∧A5 w w'
theorem Uq (w:World) (v:Value) (l:List Int) (hr:Rd w w.heap.size v (l.map vi)) (hl:∀x∈l,Bc x) (hll:l.length≤1000000):
  Calls Tryz.prog 36 #[v] w (Un w):=by
 obtain⟨A,n,c,rfl,hn,hc⟩:=hr.form;have HPK:=S9 (fun w' (g:A5 w w') i m (hi:i≤1000000) (hm:0<m) (hm2:m≤1000000)=>Nh (.slice A n c) l i m w' ((hr.grew (SD _) g).more g.size) hl (by omega) hi hm hm2);clear hr hl hll hn hc;obtain⟨q0,hq0⟩:∃q,Hm l 0 64=q:=⟨_,rfl⟩;have hq64:q0<64:=by rw[←hq0];exact P5 _ _ _ (by decide)
 have HP0:=S9 (show ∀w',A5 w w'→Calls Tryz.prog 23 #[.slice A n c,.int .i64 0,.int .i64 64] w' fun e w''=>e= .returned (.int .i64 (q0:Nat))∧w''=w' from fun w' g=>by have:=HPK.out w' g 0 64 (by decide) (by decide) (by decide);rw[hq0]at this;exact this);clear hq0;go_enter Tryz.func36,Tryz.ntmps36;go_upto_region 4 with(first|(go_at_call 68;(with_reducible refine(Ui _).mono ?_);rintro e1 w1 ⟨rfl,hb1,k1⟩;have HB1:=S9 hb1;have HG1:=S9 k1;clear hb1 k1)|(go_at_call 69;(with_reducible refine(Ug _).mono ?_);rintro e2 w2 ⟨rfl,hb2,k2⟩;have HB2:=S9 hb2;have HG2:=S9 (HG1.out.trans k2);have HB12:=S9 (HB1.out.grew k2);clear hb2 k2)|(go_at_call 23;(with_reducible refine(HP0.out _ HG2.out).mono ?_);rintro e3 w3 ⟨rfl,hw3⟩;rw[hw3];clear hw3));obtain⟨g1,hg1⟩:∃g,w.heap.size=g:=⟨_,rfl⟩;obtain⟨g2,hg2⟩:∃g,w1.heap.size=g:=⟨_,rfl⟩;rw[hg1]at HB12 ⊢;rw[hg2]at HB2 ⊢;have HSm:=S9 (show g1<w2.heap.size∧g2<w2.heap.size∧w.heap.size≤w2.heap.size from⟨HB12.out.lt,HB2.out.lt,HG2.out.size⟩);clear HB1 hg2;go_wp2_with fail;go_loopw [5,6,7] (fun a so i wr=>∃(j q:Nat) (ls:List (ByteArray×ByteArray)),j≤6∧i= .int .i64 (j:Nat)∧a= .int .i64 (q:Nat)∧q<64∧BJ wr w2.heap.size 117 2 so (ls.map Sj)∧ls.length≤j∧A5 w2 wr) (fun _ _ i _=>6-(intOf i).toNat)
 case atStart=>exact⟨0,q0,[],by omega,rfl,rfl,hq64,BJ.nil _ _ _ _,SD _,Sa _⟩
 case round=>
  obtain⟨j,q,ls,hj,rfl,rfl,hq,hM,hl,hG⟩:=hrel;obtain⟨As,ns,ks,rfl,hns, -⟩:=hM.slice;have HMR:=S9 hM;have HGW:=S9 (HG2.out.trans hG);have HG:=S9 hG;have HSz:=S9 hG.size;clear hM hG hns;by_cases hlt:j<6
  ·obtain⟨nm,hnm⟩:∃s,V6[j]? =some s:=⟨_,SF (by show j<6;exact hlt)⟩;obtain⟨p,hp⟩:∃p,Hm l (j+1) 6=p:=⟨_,rfl⟩;have hp6:p<6:=by rw[←hp];exact P5 _ _ _ (by decide)
   obtain⟨vl,hvl⟩:∃s,V5[p]? =some s:=⟨_,SF (by show p<6;exact hp6)⟩;have HPk:=S9 (show ∀w',A5 w w'→Calls Tryz.prog 23 #[.slice A n c,.int .i64 ((j:Int)+1),.int .i64 6] w' fun e w''=>e= .returned (.int .i64 (p:Nat))∧w''=w' from fun w' g=>by have:=HPK.out w' g (j+1) 6 (by omega) (by decide) (by decide);rw[hp]at this;exact this);have HNm:=S9 (show ∀w',A5 wr w'→w'.cell? ⟨g1,j,none⟩=some (.string nm)from fun w' g=>(((HB12.out.grew HG.out).grew g).cell j).trans (by rw[List.getElem?_toArray,List.getElem?_map,hnm];rfl));have HVl:=S9 (show ∀w',A5 wr w'→w'.cell? ⟨g2,p,none⟩=some (.string vl)from fun w' g=>(((HB2.out.grew HG.out).grew g).cell p).trans (by rw[List.getElem?_toArray,List.getElem?_map,hvl];rfl));clear hnm hvl hp;have hw1:IntKind.i64.wrap ((j:Int)+1)=(j:Int)+1:=IntWalk.i64_in _ (by omega);have i1:(0:Int)≤(p:Nat):=by omega
   have i2:((p:Nat):Int)<6:=by omega
   by_cases hodd:q%2=1
   ·have ho1:((q:Int)%2==1)=true:=by rw[SG];omega
    have ho2:(q:Int)%2=1:=by omega
    go_upto_region 9 with fail;have gd:A5 wr wr.drew:=Sd (Sa wr);refine B8 [(14,fun w'=>A5 wr.drew w')] (by kernel_rfl) (by intro pp hp;obtain rfl:=SJ.1 hp;exact Sa _) ?_;intro hcl hkn
    try simp only[Bn]
    refine' B1 (i:=0) (v:=_) rfl (by kernel_rfl) (by kernel_rfl) (by kernel_rfl) hcl hkn (by rfl) (fun _ _ _ h=>h) rfl ?_ ?_
    rotate_left
    ·intro w';go_simp;try with_reducible rfl
    clear hcl hkn;intro hcl hkn
    try simp only[Bn]
    refine' B1 (i:=1) (v:=_) rfl (by kernel_rfl) (by kernel_rfl) (by kernel_rfl) hcl hkn (by rfl) (fun _ _ _ h=>h) rfl ?_ ?_
    rotate_left
    ·intro w';go_simp;try with_reducible rfl
    clear hcl hkn;intro hcl hkn
    try simp only[Bn]
    refine' B1 (i:=2) (v:=_) rfl (by kernel_rfl) (by kernel_rfl) (by kernel_rfl) hcl hkn (by rfl) (fun _ _ _ h=>h) rfl ?_ ?_
    rotate_left
    ·intro w';go_simp;try with_reducible rfl
    clear hcl hkn;intro hcl hkn
    try simp only[Bn]
    refine' B1 (i:=3) (v:=_) rfl (by kernel_rfl) (by kernel_rfl) (by kernel_rfl) hcl hkn (by rfl) (fun _ _ _ h=>h) rfl ?_ ?_
    rotate_left
    ·intro w';go_simp;try with_reducible rfl
    clear hcl hkn;intro hcl hkn
    try simp only[Bn]
    refine' Fq [13,12] 14 _ (i:=4) (v:=_) rfl (by kernel_rfl) (by kernel_rfl) (by kernel_rfl) hcl hkn (by rfl) 0 rfl (by kernel_rfl) (fun _ _ _ h=>h) rfl ?_ ?_
    rotate_left
    ·intro w' hA;have hc:w'.cell? ⟨g1,j,none⟩=some (.string nm):=HNm.out _ (gd.trans hA);go_simp;try with_reducible rfl
    clear hcl hkn;intro hcl hkn
    try simp only[Bn]
    refine' B1 (i:=5) (v:=_) rfl (by kernel_rfl) (by kernel_rfl) (by kernel_rfl) hcl hkn (by rfl) (fun _ _ _ h=>h) rfl ?_ ?_
    rotate_left
    ·intro w';go_simp;try with_reducible rfl
    clear hcl hkn;intro hcl hkn
    try simp only[Bn]
    refine' B1 (i:=6) (v:=_) rfl (by kernel_rfl) (by kernel_rfl) (by kernel_rfl) hcl hkn (by rfl) (fun _ _ _ h=>h) rfl ?_ ?_
    rotate_left
    ·intro w';go_simp;try with_reducible rfl
    clear hcl hkn;intro hcl hkn
    try simp only[Bn]
    refine' B1 (i:=7) (v:=_) rfl (by kernel_rfl) (by kernel_rfl) (by kernel_rfl) hcl hkn (by rfl) (fun _ _ _ h=>h) rfl ?_ ?_
    rotate_left
    ·intro w';go_simp;try with_reducible rfl
    clear hcl hkn;intro hcl hkn
    try simp only[Bn]
    refine' B1 (i:=8) (v:=_) rfl (by kernel_rfl) (by kernel_rfl) (by kernel_rfl) hcl hkn (by rfl) (fun _ _ _ h=>h) rfl ?_ ?_
    rotate_left
    ·intro w';go_simp;try with_reducible rfl
    clear hcl hkn;intro hcl hkn
    try simp only[Bn]
    refine AV hcl (i:=9) (by kernel_rfl) rfl rfl (fun K hK=>?_);go_simp;(with_reducible refine(HPk.out _ (HGW.out.trans gd)).mono ?_);rintro e1 wp ⟨rfl,hwp⟩;rw[hwp];clear hwp;refine hK _ _ (AJ (.inr (Sa _))) ?_;clear hK K;clear hcl hkn;intro hcl hkn
    try simp only[Bn]
    refine' B1 (i:=10) (v:=_) rfl (by kernel_rfl) (by kernel_rfl) (by kernel_rfl) hcl hkn (by rfl) (fun _ _ _ h=>h) rfl ?_ ?_
    rotate_left
    ·intro w';go_simp;try with_reducible rfl
    clear hcl hkn;intro hcl hkn
    try simp only[Bn]
    refine' Fq [13,12] 14 _ (i:=11) (v:=_) rfl (by kernel_rfl) (by kernel_rfl) (by kernel_rfl) hcl hkn (by rfl) 0 rfl (by kernel_rfl) (fun _ _ _ h=>h) rfl ?_ ?_
    rotate_left
    ·intro w' hA;have hc:w'.cell? ⟨g2,p,none⟩=some (.string vl):=HVl.out _ (gd.trans hA);go_simp;try with_reducible rfl
    clear hcl hkn;intro hcl hkn
    try simp only[Bn]
    refine B1 (i:=12) rfl (by kernel_rfl) (by kernel_rfl) (by kernel_rfl) hcl hkn (by rfl) (fun _ _ _ h=>h) rfl (T3 117 #[(0,.tmp 25),(1,.tmp 32)] rfl _ _ (UP nm vl) (by simp[Act.eval,Act.put])) ?_;clear hcl hkn;intro hcl hkn
    try simp only[Bn]
    refine AV hcl (i:=13) (by kernel_rfl) rfl rfl (fun K hK=>?_);refine TO (.tmp 33) rfl (l:=(nm,vl)) rfl ?_;refine hK _ _ (AJ (.inr ((Sa _).alloc _))) ?_;clear hK K;clear hcl hkn;intro hcl hkn
    try simp only[Bn]
    refine AV hcl (i:=14) (by kernel_rfl) rfl rfl (fun K hK=>?_);refine TY V1 (.tmp 21) (.tmp 34) rfl rfl ((HMR.out.grew gd).alloc _) rfl (Sc wr.drew 117 (Sj (nm,vl)).toArray) (UV _) rfl (by rw[List.length_map];omega) (by have h1:=HSz.out;have h2:=gd.size;simp only[World.size_alloc];omega) ?_;intro v8 w8 hM8 k8 ho8;obtain⟨A8,n8,q8,rfl, -, -⟩:=hM8.slice;have HM8:=S9 (SC hM8 (show AC (fun i=>(Value.slice As ns ks).ownBlock=some i) (wr.drew.alloc (.cells (Sj (nm,vl)).toArray 117)) w8 from k8));clear hM8 k8 ho8;refine hK _ _ (AJ (.inl (by kernel_rfl))) ?_;clear hK K;clear hcl hkn;intro hcl hkn
    try simp only[Bn]
    refine AV hcl (i:=15) (by kernel_rfl) rfl rfl (fun K hK=>?_);go_simp;refine hK _ _ (AJ (.inl (by kernel_rfl))) ?_;clear hK K;clear hcl hkn;intro hcl hkn
    try simp only[Bn]
    refine BK (by kernel_rfl) ?_ _;clear hcl hkn;go_wp2_with fail;go_roundw
    case rel=>exact⟨j+1,q/2,ls++[(nm,vl)],by omega,by go_num,congrArg (Value.int .i64) (by omega),by omega,by rw[List.map_append];exact HM8.out.1,by simp;omega,Sb (((HG.out.trans gd)).alloc _) HM8.out.2 fun i hi e=>by have:=(HMR.out.lt i e).1;omega⟩
    case measure=>simp[intOf];omega
   have ho1:((q:Int)%2==1)=false:=by rw[SA];omega
   have ho2:¬((q:Int)%2=1):=by omega
   go_wp2_with fail;go_roundw
   case rel=>exact⟨j+1,q/2,ls,by omega,by go_num,congrArg (Value.int .i64) (by omega),by omega,HMR.out,by omega,HG.out⟩
   case measure=>simp[intOf];omega
  obtain rfl:j=6:=by omega
  go_wp2_with fail;go_ret;exact⟨_,ls,rfl,HMR.out.own.keep (S:=fun _=>False) (fun b hb=>⟨(HMR.out.lt b hb).2,id,.inr (by have h1:=(HMR.out.lt b hb).1;have h2:=HSm.out.2.2;omega),(HMR.out.lt b hb).2⟩) (Sa _),by omega,HGW.out⟩
end Go.Proofs.YthpflelgbadkcaaGreatDoor
namespace Go.Proofs.YthpflelgbadkcaaGreatDoor
open Go.RowKit Pl
def UO {α:Type} (R:World→(Nat→Prop)→α→List Value→Prop):Prop:=∀(w w':World) (Q Q' S:Nat→Prop) (e:α) (cs:List Value),R w Q e cs→(∀b,Q b→b<w.heap.size∧¬S b∧Q' b)→AC S w w'→R w' Q' e cs
def TX {α:Type} (R:World→(Nat→Prop)→α→List Value→Prop) (w:World) (Q:Nat→Prop) (es:List α) (rows:List (List Value)):Prop:=rows.length=es.length∧∀(j:Nat) (e:α) (cs:List Value),es[j]? =some e→rows[j]? =some cs→R w Q e cs
section
variable {α:Type} {R:World→(Nat→Prop)→α→List Value→Prop} {w w':World} {Q Q':Nat→Prop} {es:List α} {rows:List (List Value)}
theorem TX.nil (w:World) (Q:Nat→Prop):TX R w Q [] []:=⟨rfl,fun j e cs h=>by simp at h⟩
theorem TX.keep {S:Nat→Prop} (hR:UO R) (h:TX R w Q es rows) (hq:∀b,Q b→b<w.heap.size∧¬S b∧Q' b) (hk:AC S w w'):TX R w' Q' es rows:=⟨h.1,fun j e cs h1 h2=>hR w w' Q Q' S e cs (h.2 j e cs h1 h2) hq hk⟩
theorem TX.snoc {e:α} {cs:List Value} (h:TX R w Q es rows) (he:R w Q e cs):TX R w Q (es++[e]) (rows++[cs]):=by
 refine⟨by rw[SX,SX,h.1];rfl,fun j e' cs' h1 h2=>?_⟩;by_cases hj:j<es.length
 ·rw[List.getElem?_append_left hj]at h1;rw[List.getElem?_append_left (by rw[h.1];exact hj)]at h2;exact h.2 j e' cs' h1 h2
 rw[List.getElem?_append_right (by omega)]at h1;rw[List.getElem?_append_right (by rw[h.1];omega),h.1]at h2;cases hz:j-es.length with
 |zero=>
  rw[hz]at h1 h2;obtain rfl:e=e':=by simpa using h1
  obtain rfl:cs=cs':=by simpa using h2
  exact he
 |succ z=>rw[hz]at h1;simp at h1
theorem TX.step (hR:UO R) {B0 M sz:Nat} {s v':Value} {t:TypeId} {o:Obj} {e:α} {cs:List Value} {wr w3 w6:World} (hT:TX R wr (J6 B0 M s wr.heap.size) es rows) (hM:BJ wr M t sz s rows) (hM2:M≤wr.heap.size) (g3:A5 wr w3) (he:R w3 (J6 B0 M s w3.heap.size) e cs)
  (k6:AC (fun i=>s.ownBlock=some i) (w3.alloc o) w6) (hr:v'.ownBlock=s.ownBlock∨v'.ownBlock=some (w3.alloc o).heap.size):TX R w6 (J6 B0 M v' w6.heap.size) (es++[e]) (rows++[cs]):=by
 have s3:=g3.size;have s4:(w3.alloc o).heap.size=w3.heap.size+1:=by simp
 have s6:=k6.size;have ga:A5 w3 (w3.alloc o):=(Sa w3).alloc o;refine TX.snoc (hT.keep (S:=fun i=>s.ownBlock=some i) hR (fun b hb=>?_) (Sb ((g3.trans ga).keeps (S:=fun i=>s.ownBlock=some i)) k6 fun i _ h=>h)) (hR _ _ _ _ (fun i=>s.ownBlock=some i) e cs he (fun b hb=>?_) (Sb (ga.keeps (S:=fun i=>s.ownBlock=some i)) k6 fun i _ h=>h))
 ·obtain⟨h1,h2,h3⟩:=hb;refine⟨h2,h3,h1,by omega,fun h4=>?_⟩;rcases hr with hr|hr
  ·exact h3 (hr▸h4)
  rw[hr]at h4;injection h4 with h4;omega
 obtain⟨h1,h2,h3⟩:=hb;refine⟨h2,h3,h1,by omega,fun h4=>?_⟩;rcases hr with hr|hr
 ·exact h3 (hr▸h4)
 rw[hr]at h4;injection h4 with h4;omega
theorem TX.read {base:Nat} {t:TypeId} {sz:Nat} {v:Value} (hM:BJ w base t sz v rows) (h:TX R w Q es rows) (hq:∀b,v.ownBlock=some b→Q b):∃A c,v= .slice A es.length c∧es.length≤c∧(0<es.length→∃b o,A=some ⟨b,o,none⟩∧Q b∧∀j e,es[j]? =some e→∃cs,w.rangeAt b (o+j*sz) cs∧R w Q e cs):=by
 obtain⟨A,c,rfl,hc,hx⟩:=hM.own;refine⟨A,c,by rw[h.1],by rw[←h.1];exact hc,fun hn=>?_⟩;obtain⟨b,o,e,hb,hcell⟩:=hx (by rw[h.1];exact hn);refine⟨b,o,e,hq b hb,fun j e' hj=>?_⟩;have hjl:j<rows.length:=by rw[h.1];exact(SK.1 hj).1
 exact⟨rows[j],hcell j _ (SF hjl),h.2 j e' _ hj (SF hjl)⟩
end
end Go.Proofs.YthpflelgbadkcaaGreatDoor
