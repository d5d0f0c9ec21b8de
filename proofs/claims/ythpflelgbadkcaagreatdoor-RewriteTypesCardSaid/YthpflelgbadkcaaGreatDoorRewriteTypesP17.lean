/- What the card of the law stands on: Sep, PFoldT, GenA, TreeX, GenPl, GenB. -/
import Derived.Test.YthpflelgbadkcaaGreatDoorRewriteTypesP16
import Derived.Test.YthpflelgbadkcaaGreatDoorRewriteTypesP07
import Derived.Deep.DeepCutAuto
import Derived.Test.YthpflelgbadkcaaGreatDoorRewriteTypesP08
import Derived.Test.YthpflelgbadkcaaGreatDoorRewriteTypesP06
import Derived.Test.YthpflelgbadkcaaGreatDoorRewriteTypesP01
import Derived.Great.BuildSlice
set_option maxRecDepth 100000
set_option maxHeartbeats 12800000
set_option linter.unusedVariables false
set_option linter.unusedSimpArgs false
namespace Go.Proofs.YthpflelgbadkcaaGreatDoor
open Go.RowKit Pl
theorem S2 (l:List Mt):I0 3 (l.map Ac):=by
 intro r hr;obtain⟨m, -,rfl⟩:=List.mem_map.1 hr;rfl
theorem Rz (l:List Mt):∀r∈l.map Ac,∀u∈r,u.oneCell'=true:=by
 intro r hr;obtain⟨m, -,rfl⟩:=List.mem_map.1 hr;exact Di m
theorem ML (l:List ByteArray):I0 1 (l.map fun s=>[Value.string s]):=by
 intro r hr;obtain⟨m, -,rfl⟩:=List.mem_map.1 hr;rfl
theorem Ll (l:List ByteArray):∀r∈l.map (fun s=>[Value.string s]),∀u∈r,u.oneCell'=true:=by
 intro r hr;obtain⟨m, -,rfl⟩:=List.mem_map.1 hr;intro u hu;obtain rfl:=VF.1 hu;rfl
theorem O3:∀(k:Nat) (e:Ex),AH e≤k→k≤1000000→BW Bz e→∀(w:World) (cs:List Value),BU w w.heap.size e cs→
  Calls Tryz.prog 28 #[.agg cs.toArray] w (Jq w 0 e)
 |0,e,h,_,_,_,_,_=>absurd (Aj e) (by omega)
 |k+1,e,hk,hk2,hok,w,cs,hr=>by
  obtain⟨vm,vb,vk,rfl,hm,hy,hT⟩:=hr.open_;obtain⟨Am,nm,km,rfl⟩:∃A n c,vm= .slice A n c:=by obtain⟨A,c,h, -⟩:=hm;exact⟨A,_,c,h⟩
  obtain⟨Ab,nb,kb,rfl⟩:∃A n c,vb= .slice A n c:=by obtain⟨A,c,h, -⟩:=hy;exact⟨A,_,c,h⟩
  obtain⟨A,n,c,rfl,hn, -⟩:=hT.slice;have hne:=Az e;have hkl:=CF e.kids;have HIH:=V3 (fun(e':Ex) (w':World) (cs:List Value) (h1:e'∈e.kids) (h2:BU w' w'.heap.size e' cs)=>O3 k e' (by have:=AT h1;omega) (by omega) (hok.kid h1) w' cs h2);have HT:=V3 hT;have HN:=V3 hn;have HMY:=V3 (V5 hm hy);have hnb:n≤1000000:=by omega
  obtain⟨hb1,hb2,hG⟩:=CI w 29 29 (AC e (.slice Am nm km) (.slice Ab nb kb) (.slice A n c)).toArray (AJ 0 0).toArray;have hs2:((w.alloc (.cells (AC e (.slice Am nm km) (.slice Ab nb kb) (.slice A n c)).toArray 29)).alloc (.cells (AJ 0 0).toArray 29)).heap.size=w.heap.size+2:=by simp
  have hx:=hok.top.2;have HCM:=V3 (fun w' (g:A4 ((w.alloc (.cells (AC e (.slice Am nm km) (.slice Ab nb kb) (.slice A n c)).toArray 29)).alloc (.cells (AJ 0 0).toArray 29)) w')=>NZ (.slice Am nm km) (e.ms.map Ac) w' (hm.keep (V6 _) (hG.trans g).size (hG.trans g) (fun _ _ h=>h)) (S2 e.ms) (Rz e.ms) (by have:=hx.2.2.2.1;simp;omega));have HCB:=V3 (fun w' (g:A4 ((w.alloc (.cells (AC e (.slice Am nm km) (.slice Ab nb kb) (.slice A n c)).toArray 29)).alloc (.cells (AJ 0 0).toArray 29)) w')=>J0 (.slice Ab nb kb) (e.bys.map fun s=>[Value.string s]) w' (hy.keep (V6 _) (hG.trans g).size (hG.trans g) (fun _ _ h=>h)) (ML e.bys) (Ll e.bys) (by have:=hx.2.2.2.2;simp;omega));clear hx;clear hr hm hy hT hn hne hkl hk hk2 hok;go_enter Tryz.func28,Tryz.ntmps28;go_upto_region 1 with fail;change Code.wp _ _ _ _ ((w.alloc (.cells (AC e (.slice Am nm km) (.slice Ab nb kb) (.slice A n c)).toArray 29)).alloc (.cells (AJ 0 0).toArray 29));generalize (w.alloc (.cells (AC e (.slice Am nm km) (.slice Ab nb kb) (.slice A n c)).toArray 29)).alloc (.cells (AJ 0 0).toArray 29)=w1 at*;have HS:=V3 hs2;clear hs2;refine C6 [(7,fun w'=>w'.cell? ⟨w.heap.size,8,none⟩=some (.slice Am nm km)),(9,fun w'=>w'.cell? ⟨w.heap.size,9,none⟩=some (.slice Ab nb kb))] (by kernel_rfl) (by intro pp hp;rcases List.mem_cons.1 hp with rfl|hp;exact hb1.drew.cell 8;obtain rfl:=VF.1 hp;exact hb1.drew.cell 9) ?_;intro hcl hkn
  refine' AV (i:=0) (v:=_) rfl (by kernel_rfl) (by kernel_rfl) (by kernel_rfl) hcl hkn (by rfl) (fun _ _ _ h=>h) rfl ?_ ?_
  rotate_left
  ·intro w';go_simp;try with_reducible rfl
  clear hcl hkn;intro hcl hkn;simp only[List.getElem_toArray,List.getElem_cons_zero,List.getElem_cons_succ,Act.put,List.setIfInBounds_toArray,List.set_cons_zero,List.set_cons_succ]
  refine' DQ 7 _ (i:=1) (v:=_) rfl (by kernel_rfl) (by kernel_rfl) (by kernel_rfl) hcl hkn (by rfl) 0 rfl (by kernel_rfl) (fun _ _ _ h=>h) rfl ?_ ?_
  rotate_left
  ·rintro w' hc;go_simp;try with_reducible rfl
  clear hcl hkn;intro hcl hkn;simp only[List.getElem_toArray,List.getElem_cons_zero,List.getElem_cons_succ,Act.put,List.setIfInBounds_toArray,List.set_cons_zero,List.set_cons_succ]
  refine' AV (i:=3) (v:=_) rfl (by kernel_rfl) (by kernel_rfl) (by kernel_rfl) hcl hkn (by rfl) (fun _ _ _ h=>h) rfl ?_ ?_
  rotate_left
  ·intro w';go_simp;try with_reducible rfl
  clear hcl hkn;intro hcl hkn;simp only[List.getElem_toArray,List.getElem_cons_zero,List.getElem_cons_succ,Act.put,List.setIfInBounds_toArray,List.set_cons_zero,List.set_cons_succ]
  refine' DQ 9 _ (i:=4) (v:=_) rfl (by kernel_rfl) (by kernel_rfl) (by kernel_rfl) hcl hkn (by rfl) 1 rfl (by kernel_rfl) (fun _ _ _ h=>h) rfl ?_ ?_
  rotate_left
  ·rintro w' hc;go_simp;try with_reducible rfl
  clear hcl hkn;intro hcl hkn;simp only[List.getElem_toArray,List.getElem_cons_zero,List.getElem_cons_succ,Act.put,List.setIfInBounds_toArray,List.set_cons_zero,List.set_cons_succ];refine BF hcl (i:=2) (by kernel_rfl) rfl rfl (fun K hK=>?_);go_simp;refine(HCM.out _ (VX (VU w1))).mono ?_;rintro e2 w2 ⟨vM,rfl,qM,k2⟩;have b2:=hb1.drew.grew k2;refine hK _ _ (G5 (.inr (b2.cell 8)) (.inr (b2.cell 9))) ?_;have g2:A4 w1 w2:=(VX (VU w1)).trans k2;have HQM:=V3 qM;obtain⟨AM,nM,kM,rfl, -⟩:=qM.slice;clear qM k2;clear hK K hcl hkn;intro hcl hkn
  try simp only[List.getElem_toArray,List.getElem_cons_zero,List.getElem_cons_succ,Act.put,List.setIfInBounds_toArray,List.set_cons_zero,List.set_cons_succ]
  refine' AV (i:=6) (v:=_) rfl (by kernel_rfl) (by kernel_rfl) (by kernel_rfl) hcl hkn (by rfl) (fun _ _ _ h=>h) rfl ?_ ?_
  rotate_left
  ·intro w';go_simp;try with_reducible rfl
  clear hcl hkn;intro hcl hkn;simp only[List.getElem_toArray,List.getElem_cons_zero,List.getElem_cons_succ,Act.put,List.setIfInBounds_toArray,List.set_cons_zero,List.set_cons_succ];refine BF hcl (i:=5) (by kernel_rfl) rfl rfl (fun K hK=>?_);go_simp;refine(HCB.out _ g2).mono ?_;rintro e3 w3 ⟨vB,rfl,qB,k3⟩;have b3:=b2.grew k3;refine hK _ _ (G5 (.inr (b3.cell 8)) (.inr (b3.cell 9))) ?_;have HQB:=V3 qB;have HK3:=V3 k3;obtain⟨AB,nB,kB,rfl, -⟩:=qB.slice;have c8:w3.cell? ⟨w.heap.size,8,none⟩=some (.slice Am nm km):=b3.cell 8;have f8:w3.frozen? ⟨w.heap.size,8,none⟩=false:=b3.frozen 8;clear qB k3;clear hK K hcl hkn;intro hcl hkn
  try simp only[List.getElem_toArray,List.getElem_cons_zero,List.getElem_cons_succ,Act.put,List.setIfInBounds_toArray,List.set_cons_zero,List.set_cons_succ]
  refine BF hcl (i:=7) (by kernel_rfl) rfl rfl (fun K hK=>?_);go_simp;have b4:=b3.set_ 8 (.slice AM nM kM);refine hK _ _ (G5 (.inl (by kernel_rfl)) (.inr (b4.cell 9))) ?_;have c9:(w3.setCell ⟨w.heap.size,8,none⟩ (.slice AM nM kM)).cell? ⟨w.heap.size,9,none⟩=some (.slice Ab nb kb):=b4.cell 9;have f9:(w3.setCell ⟨w.heap.size,8,none⟩ (.slice AM nM kM)).frozen? ⟨w.heap.size,9,none⟩=false:=b4.frozen 9;clear c8 f8;clear hK K hcl hkn;intro hcl hkn
  try simp only[List.getElem_toArray,List.getElem_cons_zero,List.getElem_cons_succ,Act.put,List.setIfInBounds_toArray,List.set_cons_zero,List.set_cons_succ]
  refine' AV (i:=8) (v:=_) rfl (by kernel_rfl) (by kernel_rfl) (by kernel_rfl) hcl hkn (by rfl) (fun _ _ _ h=>h) rfl ?_ ?_
  rotate_left
  ·intro w';go_simp;try with_reducible rfl
  clear hcl hkn;intro hcl hkn;simp only[List.getElem_toArray,List.getElem_cons_zero,List.getElem_cons_succ,Act.put,List.setIfInBounds_toArray,List.set_cons_zero,List.set_cons_succ];refine BF hcl (i:=9) (by kernel_rfl) rfl rfl (fun K hK=>?_);go_simp;have b5:=b4.set_ 9 (.slice AB nB kB);refine hK _ _ (G5 (.inl (by kernel_rfl)) (.inl (by kernel_rfl))) ?_;clear hK K hcl hkn;intro hcl hkn
  try simp only[List.getElem_toArray,List.getElem_cons_zero,List.getElem_cons_succ,Act.put,List.setIfInBounds_toArray,List.set_cons_zero,List.set_cons_succ]
  refine Ca (by kernel_rfl) ?_ _;have b5':AR ((w3.setCell ⟨w.heap.size,8,none⟩ (.slice AM nM kM)).setCell ⟨w.heap.size,9,none⟩ (.slice AB nB kB)) w.heap.size 29 (AC e (.slice AM nM kM) (.slice AB nB kB) (.slice A n c)).toArray:=b5;have k5:AA (fun i=>i=w.heap.size) w3 ((w3.setCell ⟨w.heap.size,8,none⟩ (.slice AM nM kM)).setCell ⟨w.heap.size,9,none⟩ (.slice AB nB kB)):=VZ (S:=fun i=>i=w.heap.size) (p:=⟨w.heap.size,9,none⟩) (VZ (S:=fun i=>i=w.heap.size) (p:=⟨w.heap.size,8,none⟩) (VY _ w3) (.inl rfl) _) (.inl rfl) _;have g3:A4 w1 w3:=g2.trans HK3.out;have hs2:=HS.out;have hd1:w1.drew.heap.size=w1.heap.size:=rfl;have rM:Ba ((w3.setCell ⟨w.heap.size,8,none⟩ (.slice AM nM kM)).setCell ⟨w.heap.size,9,none⟩ (.slice AB nB kB)) (fun b=>w.heap.size+2≤b∧b<w3.heap.size) 3 (.slice AM nM kM) (e.ms.map Ac):=HQM.out.keep (S:=fun i=>i=w.heap.size) (fun b hb=>⟨hb.2,fun h=>by have:=hb.1;omega,by have:=hb.1;omega,by have:=hb.2;have:=HK3.out.size;omega⟩) (VV (Vb HK3.out) k5 fun i _ h=>h);have rB:Ba ((w3.setCell ⟨w.heap.size,8,none⟩ (.slice AM nM kM)).setCell ⟨w.heap.size,9,none⟩ (.slice AB nB kB)) (fun b=>w.heap.size+2≤b∧b<w3.heap.size) 1 (.slice AB nB kB) (e.bys.map fun s=>[Value.string s]):=HQB.out.keep (S:=fun i=>i=w.heap.size) (fun b hb=>⟨hb.2,fun h=>by have:=hb.1;have:=g2.size;omega,by have:=hb.1;have:=g2.size;omega,hb.2⟩) k5;have hg5:A4 w ((w3.setCell ⟨w.heap.size,8,none⟩ (.slice AM nM kM)).setCell ⟨w.heap.size,9,none⟩ (.slice AB nB kB)):=VV (hG.trans g3) k5 fun i hi e=>by omega
  have bz:AR ((w3.setCell ⟨w.heap.size,8,none⟩ (.slice AM nM kM)).setCell ⟨w.heap.size,9,none⟩ (.slice AB nB kB)) (w.heap.size+1) 29 (AJ 0 0).toArray:=((hb2.grew g3).far (p:=⟨w.heap.size,8,none⟩) (by simp) _).far (p:=⟨w.heap.size,9,none⟩) (by simp) _;have hs5:=k5.size;have HB:=V3 (V5 b5' (V5 bz (V5 hg5 (V5 rM rB))));have HSZ:=V3 (show w.heap.size+2≤((w3.setCell ⟨w.heap.size,8,none⟩ (.slice AM nM kM)).setCell ⟨w.heap.size,9,none⟩ (.slice AB nB kB)).heap.size∧w3.heap.size≤((w3.setCell ⟨w.heap.size,8,none⟩ (.slice AM nM kM)).setCell ⟨w.heap.size,9,none⟩ (.slice AB nB kB)).heap.size by have:=g3.size;omega);clear b5 b5' k5 g3 hs2 hd1 rM rB hg5 bz b2 b3 b4 c9 f9 hb1 hb2 hG g2 hs5 HQM HQB HCM HCB;generalize w3.heap.size=z3 at*;generalize (w3.setCell ⟨w.heap.size,8,none⟩ (.slice AM nM kM)).setCell ⟨w.heap.size,9,none⟩ (.slice AB nB kB)=w5 at*;clear hcl hkn;have c10:w5.cell? ⟨w.heap.size,10,none⟩=some (.slice A n c):=HB.out.1.cell 10;go_upto_region 3 with(first|((with_reducible refine OO 27 (.const (.int .i64 0)) (.tmp 16) rfl ?_);refine R6 rfl (.const (.int .i64 0)) (.tmp 16) rfl n rfl rfl hnb ?_;intro w6 hM6 g6));have HM6:=V3 hM6;have HB6:=V3 (show AR w6 w.heap.size 29 (AC e (.slice AM nM kM) (.slice AB nB kB) (.slice A n c)).toArray∧AR w6 (w.heap.size+1) 29 (AJ 0 0).toArray∧A4 w w6∧Ba w6 (fun b=>w.heap.size+2≤b∧b<w5.heap.size) 3 (.slice AM nM kM) (e.ms.map Ac)∧Ba w6 (fun b=>w.heap.size+2≤b∧b<w5.heap.size) 1 (.slice AB nB kB) (e.bys.map fun s=>[Value.string s])from⟨HB.out.1.grew g6,HB.out.2.1.grew g6,HB.out.2.2.1.trans g6,HB.out.2.2.2.1.keep (S:=fun _=>False) (fun b hb=>⟨by have:=HSZ.out;omega,fun h=>h,hb.1,by have:=HSZ.out;omega⟩) g6,HB.out.2.2.2.2.keep (S:=fun _=>False) (fun b hb=>⟨by have:=HSZ.out;omega,fun h=>h,hb.1,by have:=HSZ.out;omega⟩) g6⟩);have HS6:=V3 (show w.heap.size+2≤w5.heap.size∧w5.heap.size≤w6.heap.size from⟨HSZ.out.1,g6.size⟩);clear hM6 g6 c10 HB HSZ HK3;have c10:w6.cell? ⟨w.heap.size,10,none⟩=some (.slice A n c):=HB6.out.1.cell 10;generalize w5.heap.size=M at*;go_wp2_with fail;go_loopw [3,5,21] (fun s _ i wr=>∃(j:Nat) (rows:List (List Value)),j≤n∧i= .int .i64 (j:Nat)∧B8 wr M 29 11 s rows∧Ch wr (J9 0 M s wr.heap.size) (e.kids.take j) rows∧AA (fun i=>M≤i) w6 wr) (fun _ _ i _=>n-(intOf i).toNat)
  case atStart=>exact⟨0,[],by omega,rfl,HM6.out,by simpa using Ch.nil _ _,VY _ _⟩
  case round=>
   obtain⟨j,rows,hj,rfl,hM,hTr,hGr⟩:=hrel;obtain⟨As,ns,ks,rfl,hns, -⟩:=hM.slice;have HM:=V3 hM;have HTr:=V3 hTr;have HNS:=V3 hns;have HGr:=V3 hGr;clear hM hTr hns hGr;by_cases hlt:j<n
   ·have hjl:j<e.kids.length:=by rw[←HN.out];exact hlt
    obtain⟨e',he'⟩:∃e',e.kids[j]? =some e':=⟨_,VB hjl⟩;have hmem:e'∈e.kids:=VJ he';have hgw:A4 w wr:=VV HB6.out.2.2.1 HGr.out fun i hi (e:M≤i)=>by have:=HS6.out;omega
    have hTw:JG wr wr.heap.size (.slice A n c) e.kids:=HT.out.grew hgw;obtain⟨b,o,cs,rfl,hb,hrg,hre⟩:=hTw.at_ he';obtain⟨vm',vb',vk',hcs,hm',hy',hT'⟩:=hre.open_;subst hcs;obtain⟨A1,n1,c1,rfl⟩:∃A n c,vm'= .slice A n c:=by obtain⟨A,c,h, -⟩:=hm';exact⟨A,_,c,h⟩
    obtain⟨A2,n2,c2,rfl⟩:∃A n c,vb'= .slice A n c:=by obtain⟨A,c,h, -⟩:=hy';exact⟨A,_,c,h⟩
    obtain⟨A3,n3,c3,rfl, -⟩:=hT'.slice;have hsw:M≤wr.heap.size:=by have:=HGr.out.size;have:=HS6.out;omega
    have HI:=V3 (fun w' (g:A4 wr w')=>HIH.out e' w' _ hmem (hre.grew g));have HE:=V3 he';have HRg:=V3 hrg;have HSW:=V3 hsw;clear hjl he' hmem hTw hrg hre hm' hy' hT' hsw hgw hb;go_wp2_with(first|((with_reducible refine AF 29 (.tmp 23) rfl ?_);refine wpList_load_mid rfl 29 (.tmp 23) rfl b (o+j*11) rfl (AC e' (.slice A1 n1 c1) (.slice A2 n2 c2) (.slice A3 n3 c3)) _ HRg.out Tryz.underlying29 rfl AE ?_)|((with_reducible refine AG 29 (.tmp 5) (.tmp 24) rfl ?_);refine BL 29 (.tmp 5) (.tmp 24) (wr.heap.size) (AC e' (.slice A1 n1 c1) (.slice A2 n2 c2) (.slice A3 n3 c3)) (AJ 0 0) 29 AE rfl (B1 _ _ _ _ _ _ _ _ _ _) rfl rfl rfl rfl (VW wr 29 _) ?_;intro w7 hb7 k7 d7;have g7:A4 wr w7:=VV ((VU wr).alloc _) k7 (fun i hi e=>by omega))|((with_reducible refine AF 29 (.tmp 5) rfl ?_);refine BZ 29 Tryz.underlying29 rfl (.tmp 5) (wr.heap.size) (AC e' (.slice A1 n1 c1) (.slice A2 n2 c2) (.slice A3 n3 c3)) 29 AE rfl rfl rfl hb7 ?_));refine(HI.out _ g7).mono ?_;rintro e2 w8 ⟨cs3,rfl,hr3,k3⟩;obtain⟨vm3,vb3,vk3,rfl,hm3,hy3,hT3⟩:=hr3.open_;obtain⟨Am3,nm3,km3,rfl, -⟩:=hm3.slice;obtain⟨Ab3,nb3,kb3,rfl, -⟩:=hy3.slice;obtain⟨A3',n3',c3',rfl, -⟩:=hT3.slice;have HR3:=V3 (AZ.two_le (M':=wr.heap.size) hr3 g7.size);have HK3:=V3 (g7.trans k3);have hl3:=Dn e' (.slice Am3 nm3 km3) (.slice Ab3 nb3 kb3) (.slice A3' n3' c3');clear k3 HI hr3 hm3 hy3 hT3 g7 hb7 k7 d7;go_wp2_with(at_builtin;refine LU rfl (.tmp 25) (.tmp 28) rfl rfl rfl (V6 _) HM.out HTr.out (Nat.zero_le _) HSW.out HK3.out HR3.out (by rw[List.length_take];omega) ?_;intro A6 n6 c6 w9 H6);go_wp2_with fail;go_roundw
    case rel=>
     obtain⟨rows6,hM6,hT6,hG6⟩:=H6.out;have hes:e.kids.take j++[e']=e.kids.take (j+1):=by rw[List.take_add_one,HE.out];simp
     rw[hes]at hT6;exact⟨j+1,_,by omega,by go_num,hM6,hT6,AA.trans HGr.out hG6⟩
    case measure=>simp[intOf];omega
   obtain rfl:j=n:=by omega
   have hes:e.kids.take j=e.kids:=List.take_of_length_le (by rw[←HN.out];exact V6 _);have hTr:=HTr.out;have hM:=HM.out;rw[hes]at hTr;have hm1:=hM.lt;have hsz:=HS6.out;have hsr:=HGr.out.size;have hTQ:EX wr (DK 0 M wr.heap.size) (.slice As ns ks) e.kids:=hM.treesQ hTr.1 (fun b hb=>⟨.inr (hm1 b hb).1,(hm1 b hb).2⟩) fun i e' cs h1 h2=>AZ.keep (S:=fun _=>False) (fun b hb=>⟨hb.2.1,fun h=>h,hb.1,hb.2.1⟩) (VU wr) e' cs (hTr.2 i e' cs h1 h2)
   have hbr:=HB6.out.1.keep HGr.out (by omega);have hb2:=HB6.out.2.1.keep HGr.out (by omega);have hgw:A4 w wr:=VV HB6.out.2.2.1 HGr.out fun i hi (e:M≤i)=>by omega
   have f10:=hbr.frozen 10;have c10':wr.cell? ⟨w.heap.size,10,none⟩=some (.slice A j c):=hbr.cell 10;have hb4:AR (wr.setCell ⟨w.heap.size,10,none⟩ (.slice As ns ks)) w.heap.size 29 ((AC e (.slice AM nM kM) (.slice AB nB kB) (.slice As ns ks))).toArray:=hbr.set_ 10 (.slice As ns ks);have k4:AA (fun i=>i=w.heap.size) wr (wr.setCell ⟨w.heap.size,10,none⟩ (.slice As ns ks)):=VZ (S:=fun i=>i=w.heap.size) (p:=⟨w.heap.size,10,none⟩) (VY _ wr) (.inl rfl) _;have hsz4:(wr.setCell ⟨w.heap.size,10,none⟩ (.slice As ns ks)).heap.size=wr.heap.size:=by simp
   have b24:=hb2.far (p:=⟨w.heap.size,10,none⟩) (by simp) (.slice As ns ks);have rM4:Ba (wr.setCell ⟨w.heap.size,10,none⟩ (.slice As ns ks)) (fun b=>(w.heap.size+2≤b)∧b<M) 3 (.slice AM nM kM) (e.ms.map Ac):=HB6.out.2.2.2.1.keep (S:=fun i=>M≤i∨i=w.heap.size) (fun b hb=>⟨by omega,fun h=>by rcases h with h|h<;>omega,hb⟩) (VV (AA.mono HGr.out fun i _ h=> .inl h) k4 fun i _ h=> .inr h);have rB4:Ba (wr.setCell ⟨w.heap.size,10,none⟩ (.slice As ns ks)) (fun b=>(w.heap.size+2≤b)∧b<M) 1 (.slice AB nB kB) (e.bys.map fun s=>[Value.string s]):=HB6.out.2.2.2.2.keep (S:=fun i=>M≤i∨i=w.heap.size) (fun b hb=>⟨by omega,fun h=>by rcases h with h|h<;>omega,hb⟩) (VV (AA.mono HGr.out fun i _ h=> .inl h) k4 fun i _ h=> .inr h);have HE4:=V3 (V5 rM4 (V5 rB4 (V5 hTQ (V5 k4 (V5 hsz4 hgw)))));clear hTQ hbr hb2 hgw k4 hsz4 hM hTr HM HTr HNS hes hm1 hsz c10 rM4 rB4 hsr;go_upto_region 9 with fail;generalize wr.setCell ⟨w.heap.size,10,none⟩ (.slice As ns ks)=w4 at*;go_wp2_with(first|((with_reducible refine AF 29 (.tmp 1) rfl ?_);refine BZ 29 Tryz.underlying29 rfl (.tmp 1) (w.heap.size) (AC e (.slice AM nM kM) (.slice AB nB kB) (.slice As ns ks)) 29 AE rfl rfl rfl hb4 ?_)|((with_reducible refine AG 29 (.tmp 2) (.tmp 33) rfl ?_);refine BL 29 (.tmp 2) (.tmp 33) (w.heap.size+1) (AC e (.slice AM nM kM) (.slice AB nB kB) (.slice As ns ks)) (AJ 0 0) 29 AE rfl (B1 _ _ _ _ _ _ _ _ _ _) rfl rfl rfl rfl b24 ?_;intro w8 hb8 k8 d8));refine bodyPost_ret (AO rfl rfl AE Tryz.underlying29 rfl hb8) rfl ?_;obtain⟨rM4,rB4,hTQ,k4,hsz4,hgw⟩:=HE4.out;have hsz:=HS6.out;have hsr:=HGr.out.size;have hgw4:A4 w w4:=VV hgw k4 fun i hi e=>by omega
   refine⟨_,rfl,?_,VV hgw4 k8 (fun i hi e=>by omega)⟩;refine IG (M:=w.heap.size+2) k8 (Nat.zero_le _) (V6 _) (AZ.mk_ ?_ ?_ ?_)
   ·exact rM4.keep (S:=fun _=>False) (fun b hb=>⟨by omega,fun h=>h,.inr hb.1,by omega⟩) (VU _)
   ·exact rB4.keep (S:=fun _=>False) (fun b hb=>⟨by omega,fun h=>h,.inr hb.1,by omega⟩) (VU _)
   exact hTQ.keep (S:=fun i=>i=w.heap.size) (fun b hb=>⟨hb.2,fun h=>by rcases hb.1 with h1|h1<;>omega,by rcases hb.1 with h1|h1;omega;exact .inr (by omega),by have:=hb.2;omega⟩) k4
theorem Fl {f:Ex→Ex}:∀(es:List Ex),(∀e∈es,AH (f e)≤AH e)→Ar (es.map f)≤Ar es
 |[],_=>V6 _
 |e::es,h=>by
  rw[List.map_cons];unfold Ar;have h1:=h e List.mem_cons_self;have h2:=Fl es fun e' he=>h e' (List.mem_cons_of_mem _ he)
  omega
theorem Kh (x y:Int):TK (BB x y):=by
 have h0:Mk (BB x y).name:=⟨fun i h=>absurd h (by show ¬i<0;omega),by show 0≤1000;omega⟩;exact⟨h0,(fun m hm=>nomatch hm),(fun m hm=>nomatch hm),Nat.zero_le _,Nat.zero_le _⟩
def GS (w:World) (g B:Nat) (v:Value) (l:List Int) (i:Nat):Prop:=AR w g 63 #[v,.int .i64 (i:Nat)]∧Rd w B v (l.map vi)∧B≤g∧(∀x∈l,BI x)∧l.length≤1000000000000000
theorem GS.grew {w w':World} {g B:Nat} {v:Value} {l:List Int} {i:Nat} (h:GS w g B v l i) (hg:A4 w w'):GS w' g B v l i:=
 ⟨h.1.grew hg,h.2.1.grew (VD h.2.2.1 (Nat.le_of_lt h.1.lt)) hg,h.2.2⟩
def Bt (g B:Nat) (v:Value) (l:List Int) (i m:Nat) (w:World) (e:Ending) (w':World):Prop:=∃r:Nat,r<m∧e= .returned (.int .i64 (r:Nat))∧GS w' g B v l (i+1)∧AA (fun b=>b=g) w w'
theorem BR (w:World) (g B:Nat) (v:Value) (l:List Int) (i m:Nat) (h:GS w g B v l i) (hi:i≤100000) (hm:0<m) (hm2:m≤100000):
  Calls Tryz.prog 51 #[.pointer (some ⟨g,0,none⟩),.int .i64 (m:Nat)] w (Bt g B v l i m w):=by
 obtain⟨hb,hr,hB,hl,hll⟩:=h;obtain⟨A,n,c,rfl,hn,hc⟩:=hr.form;have c0:w.cell? ⟨g,0,none⟩=some (.slice A n c):=hb.cell 0;have c1:w.cell? ⟨g,1,none⟩=some (.int .i64 (i:Nat)):=hb.cell 1;have f1:w.frozen? ⟨g,1,none⟩=false:=hb.frozen 1;have hb2:AR (w.setCell ⟨g,1,none⟩ (.int .i64 ((i:Int)+1))) g 63 #[.slice A n c,.int .i64 ((i:Int)+1)]:=hb.set_ 1 _;have k2:AA (fun b=>b=g) w (w.setCell ⟨g,1,none⟩ (.int .i64 ((i:Int)+1))):=VZ (S:=fun b=>b=g) (p:=⟨g,1,none⟩) (VY _ w) (.inl rfl) _;have hgl:=hb.lt;have hr2:=hr.keep (by omega) k2 (fun i hi e=>by omega);have HB:=V3 (V5 hb2 (V5 k2 hr2));have HL:=V3 (V5 hl hll);have HBB:=V3 hB;have HGL:=V3 hgl;clear hb hr hB hl hll hn hc hb2 k2 hr2 hgl;go_enter Tryz.func51,Tryz.ntmps51;go_upto_region 2 with fail;obtain⟨hb2,k2,hr2⟩:=HB.out;generalize w.setCell ⟨g,1,none⟩ (.int .i64 ((i:Int)+1))=w2 at*;have d0:w2.cell? ⟨g,0,none⟩=some (.slice A n c):=hb2.cell 0;have d1:w2.cell? ⟨g,1,none⟩=some (.int .i64 ((i:Int)+1)):=hb2.cell 1;have HP:=V3 (fun w' (hg:A4 w2 w')=>Hw (.slice A n c) l i m w' ((hr2.grew (by have:=k2.size;have:=HBB.out;have:=HGL.out;omega) hg).more (by have:=k2.size;have:=hg.size;have:=HBB.out;have:=HGL.out;omega)) HL.out.1 HL.out.2 (by omega) hm (by omega));have HR:=V3 (Ja l i m hm);have HW:=V3 (V5 hb2 (V5 k2 hr2));generalize FX l i m=r at*;have hwr:IntKind.i64.wrap ((i:Int)+1-1)=(i:Int):=by unfold IntKind.wrap;simp[IntKind.bits,IntKind.signed];omega
 have hwr2:((i:Int)+1-1)=(i:Int):=by omega
 clear hb2 k2 hr2 c0 c1 f1;go_quiet ((go_at_call 23;exact Calls.quiet_of_same (HP.out _ (Va (VU _) _))));go_wp2_with fail;go_ret;obtain⟨hb2,k2,hr2⟩:=HW.out;exact⟨r,HR.out,rfl,⟨by rw[show(((i+1:Nat)):Int)=(i:Int)+1 by omega];exact hb2.drewN _,hr2.keep (by have:=k2.size;have:=HBB.out;have:=HGL.out;omega) (Va (VU w2) _) (fun _ _ h=>h),HBB.out,HL.out⟩,k2.drewN _⟩
end Go.Proofs.YthpflelgbadkcaaGreatDoor
namespace Go.Proofs.YthpflelgbadkcaaGreatDoor
open Go.RowKit
def CO (w:World) (Q:Nat→Prop) (sz:Nat) (v:Value) (rows:List (List Value)):Prop:=
 ∃A c,v= .slice A rows.length c∧(rows.length≤c∧c≤rows.length)∧(0<rows.length→∃b o,A=some ⟨b,o,none⟩∧Q b∧∀j cs,rows[j]? =some cs→w.rangeAt b (o+j*sz) cs)
mutual
def Ai (w:World) (Q:Nat→Prop):Ex→List Value→Prop
 | .mk kind fn window offset k num den name ms bys kids,cs=>∃vm vb vk,cs=AC (.mk kind fn window offset k num den name ms bys kids) vm vb vk∧CO w Q 3 vm (ms.map Ac)∧CO w Q 1 vb (bys.map fun s=>[Value.string s])∧
   ∃A c,vk= .slice A kids.length c∧(kids.length≤c∧c≤kids.length)∧(0<kids.length→∃b o,A=some ⟨b,o,none⟩∧Q b∧CT w Q b o kids)
def CT (w:World) (Q:Nat→Prop) (b o:Nat):List Ex→Prop
 |[]=>True
 |e::es=>(∃cs,w.rangeAt b o cs∧Ai w Q e cs)∧CT w Q b (o+11) es
end
def Gz (w:World) (Q:Nat→Prop) (v:Value) (es:List Ex):Prop:=
 ∃A c,v= .slice A es.length c∧(es.length≤c∧c≤es.length)∧(0<es.length→∃b o,A=some ⟨b,o,none⟩∧Q b∧CT w Q b o es)
section
variable {w w':World} {Q Q':Nat→Prop} {B:Nat}
theorem CO.keep {sz:Nat} {v:Value} {rows:List (List Value)} {S:Nat→Prop} (h:CO w Q sz v rows) (hq:∀b,Q b→b<w.heap.size∧¬S b∧Q' b) (hk:AA S w w'):CO w' Q' sz v rows:=by
 obtain⟨A,c,hv,hc,hx⟩:=h;refine⟨A,c,hv,hc,fun hn=>?_⟩;obtain⟨b,o,e,hb,hcell⟩:=hx hn;exact⟨b,o,e,(hq b hb).2.2,fun j cs hj=>AU (hcell j cs hj) (hq b hb).1 hk (hq b hb).2.1⟩
mutual
theorem Ai.keep {S:Nat→Prop} (hq:∀b,Q b→b<w.heap.size∧¬S b∧Q' b) (hk:AA S w w'):∀(e:Ex) (cs:List Value),Ai w Q e cs→Ai w' Q' e cs
 | .mk kind fn window offset k num den name ms bys kids,cs,h=>by
  unfold Ai at h ⊢;obtain⟨vm,vb,vk,h1,h2,h3,A,c,h4,h5,h6⟩:=h;refine⟨vm,vb,vk,h1,h2.keep hq hk,h3.keep hq hk,A,c,h4,h5,fun hn=>?_⟩;obtain⟨b,o,e1,hb,hks⟩:=h6 hn;exact⟨b,o,e1,(hq b hb).2.2,CT.keep hq hk b hb kids o hks⟩
theorem CT.keep {S:Nat→Prop} (hq:∀b,Q b→b<w.heap.size∧¬S b∧Q' b) (hk:AA S w w') (b:Nat) (hb:Q b):∀(es:List Ex) (o:Nat),CT w Q b o es→CT w' Q' b o es
 |[],_,_=>by unfold CT;trivial
 |e::es,o,h=>by
  unfold CT at h ⊢;obtain⟨⟨cs,h1,h2⟩,h3⟩:=h;exact⟨⟨cs,AU h1 (hq b hb).1 hk (hq b hb).2.1,Ai.keep hq hk e cs h2⟩,CT.keep hq hk b hb es (o+11) h3⟩
end
theorem Ai.open_ {e:Ex} {cs:List Value} (h:Ai w Q e cs):∃vm vb vk,cs=AC e vm vb vk∧CO w Q 3 vm (e.ms.map Ac)∧CO w Q 1 vb (e.bys.map fun s=>[Value.string s])∧Gz w Q vk e.kids:=by
 cases e;unfold Ai at h;exact h
theorem Ai.mk_ {e:Ex} {vm vb vk:Value} (h1:CO w Q 3 vm (e.ms.map Ac)) (h2:CO w Q 1 vb (e.bys.map fun s=>[Value.string s])) (h3:Gz w Q vk e.kids):Ai w Q e (AC e vm vb vk):=by
 cases e;unfold Ai;exact⟨vm,vb,vk,rfl,h1,h2,h3⟩
theorem Gz.nil (w:World) (Q:Nat→Prop):Gz w Q (.slice none 0 0) []:=⟨none,0,rfl,⟨V6 _,V6 _⟩,fun h=>absurd h (by simp)⟩
theorem CO.nil (w:World) (Q:Nat→Prop) (sz:Nat):CO w Q sz (.slice none 0 0) []:=⟨none,0,rfl,⟨V6 _,V6 _⟩,fun h=>absurd h (by simp)⟩
theorem CO.slice {sz:Nat} {v:Value} {rows:List (List Value)} (h:CO w Q sz v rows):∃A n c,v= .slice A n c∧n=rows.length∧n≤c:=by
 obtain⟨A,c,rfl,hc,_⟩:=h;exact⟨A,_,c,rfl,rfl,hc.1⟩
theorem Gz.slice {v:Value} {es:List Ex} (h:Gz w Q v es):∃A n c,v= .slice A n c∧n=es.length∧n≤c:=by
 obtain⟨A,c,rfl,hc,_⟩:=h;exact⟨A,_,c,rfl,rfl,hc.1⟩
theorem CT.of {b:Nat}:∀{es:List Ex} {o:Nat},(∀(j:Nat) (e:Ex),es[j]? =some e→∃cs,w.rangeAt b (o+j*11) cs∧Ai w Q e cs)→CT w Q b o es
 |[],_,_=>by unfold CT;trivial
 |e::es,o,h=>by
  unfold CT;refine⟨by simpa using h 0 e rfl,CT.of fun j e' hj=>?_⟩;have:=h (j+1) e' (by simpa using hj);rwa[show o+(j+1)*11=o+11+j*11 by omega]at this
theorem CO.loose {sz:Nat} {v:Value} {rows:List (List Value)} (h:CO w Q sz v rows):Ba w Q sz v rows:=by
 obtain⟨A,c,hv,hc,hx⟩:=h;exact⟨A,c,hv,hc.1,hx⟩
mutual
theorem Ai.loose:∀{e:Ex} {cs:List Value},Ai w Q e cs→AZ w Q e cs
 | .mk kind fn window offset k num den name ms bys kids,cs,h=>by
  unfold Ai at h;unfold AZ;obtain⟨vm,vb,vk,h1,h2,h3,A,c,h4,h5,h6⟩:=h;refine⟨vm,vb,vk,h1,h2.loose,h3.loose,A,c,h4,h5.1,fun hn=>?_⟩;obtain⟨b,o,e1,hb,hks⟩:=h6 hn;exact⟨b,o,e1,hb,CT.loose hks⟩
theorem CT.loose {b:Nat}:∀{es:List Ex} {o:Nat},CT w Q b o es→Bc w Q b o es
 |[],_,_=>by unfold Bc;trivial
 |e::es,o,h=>by
  unfold CT at h;unfold Bc;obtain⟨⟨cs,h1,h2⟩,h3⟩:=h;exact⟨⟨cs,h1,Ai.loose h2⟩,CT.loose h3⟩
end
end
theorem Ai.two_le {w:World} {B M M':Nat} {e:Ex} {cs:List Value} (h:Ai w (DK B M w.heap.size) e cs) (hM:M'≤M):Ai w (DK B M' w.heap.size) e cs:=
 Ai.keep (S:=fun _=>False) (fun b hb=>⟨hb.2,fun h=>h,by have:=hb.1;omega,hb.2⟩) (VU w) e cs h
theorem AY {e:Ex} {w:World} {Q:Nat→Prop} {cs:List Value} (h:Ai w Q e cs):∀v∈cs,v.oneCell'=true:=Ap h.loose
end Go.Proofs.YthpflelgbadkcaaGreatDoor
namespace Go.Proofs.YthpflelgbadkcaaGreatDoor
open Go.RowKit Pl
def Sj (e:Ex):Prop:=Bz e∧Bq e=0
def Cj (N D:Nat) (e:Ex):Prop:=AH e≤N∧BN e≤D∧BW Sj e
theorem Cj.more {N D N' D':Nat} {e:Ex} (h:Cj N D e) (hN:N≤N') (hD:D≤D'):Cj N' D' e:=⟨VD h.1 hN,VD h.2.1 hD,h.2.2⟩
theorem Py {n d:Int} (h:Al n d=true):Bq (BB n d)=0:=by
 have h1:BH (BB n d)=true:=by simp[BH,BB,Ex.kind,Ex.fn,Ex.kids,Ex.num,Ex.den,Ex.window,Ex.offset,Ex.name,Ex.ms,Ex.k,Ex.bys,h];rfl
 have h2:Bs (BB n d)=true:=by simp[Bs,BB,Ex.kind,Ex.ms,Ex.bys,Jo]
 have h3:Ad (BB n d)=true:=by simp[Ad,BB,Ex.kind,Ex.k]
 unfold Bq;rw[h1,h2,h3];rfl
theorem Fp {n d:Int} (h:Al n d=true):Cj 1 1 (BB n d):=by
 refine⟨V6 _,V6 _,B3.2 ⟨⟨⟨?_,Kh n d⟩,Py h⟩,fun k hk=>nomatch hk⟩⟩;have z0:BI 0:=Cr.1;have hv:=BT h;exact⟨z0,z0,z0,z0,z0,by unfold BI;show _≤n∧n≤_;omega,by unfold BI;show _≤d∧d≤_;omega⟩
theorem QO {f:Int} (h:0≤f∧f≤3) (a b:Ex):Bq (Ax f a b)=0:=by
 have h1:BH (Ax f a b)=true:=by simp[BH,Ax,Ex.kind,Ex.fn,Ex.kids,Ex.num,Ex.den,Ex.window,Ex.offset,Ex.name,Ex.ms,Ex.k,Ex.bys,h];rfl
 have h2:Bs (Ax f a b)=true:=by simp[Bs,Ax,Ex.kind,Ex.ms,Ex.bys,Jo]
 have h3:Ad (Ax f a b)=true:=by simp[Ad,Ax,Ex.kind,Ex.k]
 unfold Bq;rw[h1,h2,h3];rfl
theorem KZ:Mk ⟨#[]⟩:=⟨fun i h=>absurd h (by show ¬i<0;omega),by show 0≤1000;omega⟩
theorem Aq {f:Int} (h:0≤f∧f≤3) {a b:Ex} {N1 D1 N2 D2:Nat} (ha:Cj N1 D1 a) (hb:Cj N2 D2 b):Cj (1+N1+N2) (1+max D1 D2) (Ax f a b):=by
 refine⟨?_,?_,B3.2 ⟨⟨⟨?_,KZ,(fun m hm=>nomatch hm),(fun m hm=>nomatch hm),Nat.zero_le _,Nat.zero_le _⟩,QO h a b⟩,fun k hk=>?_⟩⟩
 ·show 1+(AH a+(AH b+0))≤_;have:=ha.1;have:=hb.1;omega
 ·show max (BN a) (max (BN b) 0)+1≤_;have:=ha.2.1;have:=hb.2.1;omega
 ·have z0:BI 0:=Cr.1;exact⟨by unfold BI;show _≤(3:Int)∧(3:Int)≤_;omega,by unfold BI;show _≤f∧f≤_;omega,z0,z0,z0,z0,z0⟩
 rcases List.mem_cons.1 hk with rfl|hk
 ·exact ha.2.2
 obtain rfl:=VF.1 hk;exact hb.2.2
def EP (g B:Nat) (v:Value) (l:List Int) (M N D i C:Nat) (w:World) (e:Ending) (w':World):Prop:=
 ∃(t:Ex) (cs:List Value) (i':Nat),e= .returned (.agg cs.toArray)∧Ai w' (DK 0 M w'.heap.size) t cs∧Cj N D t∧GS w' g B v l i'∧i'≤i+C∧AA (fun b=>b=g) w w'
theorem Kp (w:World) (Q:Nat→Prop) (x y:Int):Ai w Q (BB x y) (AJ x y):=Ai.mk_ (e:=BB x y) (CO.nil _ _ _) (CO.nil _ _ _) (Gz.nil _ _)
def Ru (w:World) (Q:Nat→Prop) (t:Ex) (e:Ending) (w':World):Prop:=∃cs,e= .returned (.agg cs.toArray)∧Ai w' (fun b=>Q b∨w.heap.size≤b∧b<w'.heap.size) t cs∧A4 w w'
def Gm (f:Int) (z:Nat):List Value:=[.int .i64 3,.int .i64 f,.int .i64 0,.int .i64 0,.int .i64 0,.int .i64 0,.int .i64 0,.string ⟨#[]⟩,.slice none 0 0,.slice none 0 0,.slice (some ⟨z,0,none⟩) 2 2]
theorem Ew (f:Int) (z:Nat):∀v∈Gm f z,v.oneCell'=true:=by
 intro v hv;simp[Gm]at hv;rcases hv with rfl|rfl|rfl|rfl|rfl|rfl<;>rfl
theorem RG (ea eb:Ex) (a1 a2 a3 b1 b2 b3:Value):Instr.fill (fun i=>some (i*11,11)) ((Array.range (2*11)).map (IT.cells[·%IT.cells.size]!)) [(0,.agg (AC ea a1 a2 a3).toArray),(1,.agg (AC eb b1 b2 b3).toArray)]=some ((AC ea a1 a2 a3)++(AC eb b1 b2 b3)).toArray:=by kernel_rfl
theorem RH (ea:Ex) (a1 a2 a3:Value):Instr.fill (fun i=>some (i*11,11)) ((Array.range (1*11)).map (IT.cells[·%IT.cells.size]!)) [(0,.agg (AC ea a1 a2 a3).toArray)]=some (AC ea a1 a2 a3).toArray:=by kernel_rfl
theorem En {P:Program} {ops:Array Oper} {rest:List Oper} {o:Oper} {a:Act} {Q:Exit→Act→World→Prop} {w:World} (T:TypeId) (n:Nat) (l:Array (Nat×Operand)) (_:o.op= .buildSlice T n l) (h:wpList P ops Q (o::rest) a w):wpList P ops Q (o::rest) a w:=h
theorem Dz {ops:Array Oper} {rest:List Oper} {o:Oper} {a:Act} {Q:Exit→Act→World→Prop} {w:World} (hgd:o.guard=none) (x y:Operand) (ho:o.op= .buildSlice 27 2 #[(0,x),(1,y)]) {ea eb:Ex} {a1 a2 a3 b1 b2 b3:Value} (hx:a.eval x= .agg (AC ea a1 a2 a3).toArray) (hy:a.eval y= .agg (AC eb b1 b2 b3).toArray)
  (h:∀w',AR w' w.heap.size 29 ((AC ea a1 a2 a3)++(AC eb b1 b2 b3)).toArray→A4 w w'→wpList Tryz.prog ops Q rest (a.put o.dst (.slice (some ⟨w.heap.size,0,none⟩) 2 2)) w'):wpList Tryz.prog ops Q (o::rest) a w:=by
 obtain⟨i,hi,hz,hs,hby⟩:=info_parts U4.info;refine wpList_buildSlice hgd 27 29 2 #[(0,x),(1,y)] ho ((AC ea a1 a2 a3)++(AC eb b1 b2 b3)).toArray i IT Tryz.underlying27 hi hz (by rw[hs];decide) (by rw[hs];decide) ?_ (h _ (VW w 29 _) ((VU w).alloc _));rw[hs];simp only[List.map_toArray,List.map_cons,List.map_nil,hx,hy];exact RG ea eb a1 a2 a3 b1 b2 b3
theorem KK (f:Int) (ea eb:Ex) (ca cb:List Value) (w:World) (Q:Nat→Prop) (hQ:∀b,Q b→b<w.heap.size) (ha:Ai w Q ea ca) (hb:Ai w Q eb cb):
  Calls Tryz.prog 54 #[.int .i64 f,.agg ca.toArray,.agg cb.toArray] w (Ru w Q (Ax f ea eb)):=by
 have HA:=V3 (V5 ha hb);have hca:=AY ha;have hcb:=AY hb;obtain⟨a1,a2,a3,rfl, -⟩:=ha.open_;obtain⟨b1,b2,b3,rfl, -⟩:=hb.open_;obtain⟨hb1,hb2,hb3,hG⟩:=Ci w 29 29 29 (AC ea a1 a2 a3).toArray (AC eb b1 b2 b3).toArray (AJ 0 0).toArray;have hs:(((w.alloc (.cells (AC ea a1 a2 a3).toArray 29)).alloc (.cells (AC eb b1 b2 b3).toArray 29)).alloc (.cells (AJ 0 0).toArray 29)).heap.size=w.heap.size+3:=by simp
 have hl1:=Dn ea a1 a2 a3;have hl2:=Dn eb b1 b2 b3;have HQ:=V3 hQ;clear ha hb hQ;go_enter Tryz.func54,Tryz.ntmps54;go_upto_region 1 with fail;change Code.wp _ _ _ _ (((w.alloc (.cells (AC ea a1 a2 a3).toArray 29)).alloc (.cells (AC eb b1 b2 b3).toArray 29)).alloc (.cells (AJ 0 0).toArray 29));generalize ((w.alloc (.cells (AC ea a1 a2 a3).toArray 29)).alloc (.cells (AC eb b1 b2 b3).toArray 29)).alloc (.cells (AJ 0 0).toArray 29)=w1 at*;have HS:=V3 hs;have HG:=V3 hG;clear hs hG;go_wp2_with(first|((with_reducible refine AF 29 (.tmp 4) rfl ?_);refine BZ 29 Tryz.underlying29 rfl (.tmp 4) (w.heap.size) (AC ea a1 a2 a3) 29 AE rfl rfl rfl hb1 ?_)|((with_reducible refine AF 29 (.tmp 5) rfl ?_);refine BZ 29 Tryz.underlying29 rfl (.tmp 5) (w.heap.size+1) (AC eb b1 b2 b3) 29 AE rfl rfl rfl hb2 ?_)|((with_reducible refine En 27 2 #[(0,.tmp 8),(1,.tmp 9)] rfl ?_);refine Dz rfl (.tmp 8) (.tmp 9) rfl rfl rfl ?_;intro w2 hbk g2;have hb32:=hb3.grew g2;have HBK:=V3 hbk;clear hbk)|((with_reducible refine AG 29 (.tmp 6) (.tmp 11) rfl ?_);refine BL 29 (.tmp 6) (.tmp 11) (w.heap.size+1+1) (Gm f w1.heap.size) (AJ 0 0) 29 AE rfl (Ew _ _) rfl rfl rfl rfl hb32 ?_;intro w8 hb8 k8 d8));refine bodyPost_ret (AO rfl rfl AE Tryz.underlying29 rfl hb8) rfl ?_;obtain⟨ha,hb⟩:=HA.out;have hs:=HS.out;have hsz:=k8.size;have hz2:=HBK.out.lt;have hg8:A4 w w8:=VV (HG.out.trans g2) k8 (fun i hi e=>by omega);have hbk8:=HBK.out.keep k8 (by omega);refine⟨Gm f w1.heap.size,rfl,?_,hg8⟩;refine Ai.mk_ (e:=Ax f ea eb) (CO.nil _ _ _) (CO.nil _ _ _) ⟨_,2,rfl,⟨V6 _,V6 _⟩,fun _=>⟨w1.heap.size,0,rfl,.inr ⟨by omega,by omega⟩,CT.of fun j e' hj=>?_⟩⟩;rcases j with _|_|j
 ·obtain rfl:ea=e':=by simpa[Ax,Ex.kids]using hj
  exact⟨_,hbk8.rangeN 0 _ rfl,Ai.keep (S:=fun _=>False) (fun b hb=>⟨HQ.out b hb,fun h=>h,.inl hb⟩) hg8 _ _ ha⟩
 ·obtain rfl:eb=e':=by simpa[Ax,Ex.kids]using hj
  exact⟨_,hbk8.rangeN 11 _ rfl,Ai.keep (S:=fun _=>False) (fun b hb=>⟨HQ.out b hb,fun h=>h,.inl hb⟩) hg8 _ _ hb⟩
 simp[Ax,Ex.kids]at hj
end Go.Proofs.YthpflelgbadkcaaGreatDoor
