/- What the card of the law stands on: Sep, PFoldT, GenA, TreeX, GenPl. -/
import Derived.Test.YtcimmbhdcebehaaGreatDoorRewriteNumbersP18
import Derived.Test.YtcimmbhdcebehaaGreatDoorRewriteNumbersP07
import Derived.Deep.DeepCutAuto
import Derived.Test.YtcimmbhdcebehaaGreatDoorRewriteNumbersP08
import Derived.Test.YtcimmbhdcebehaaGreatDoorRewriteNumbersP01
set_option maxRecDepth 100000
set_option maxHeartbeats 12800000
set_option linter.unusedVariables false
set_option linter.unusedSimpArgs false
namespace Go.Proofs.YtcimmbhdcebehaaGreatDoor
open Go.RowKit Pl
theorem even_ms (l:List Mt):Even 3 (l.map mcells):=by
 intro r hr;obtain⟨m, -,rfl⟩:=List.mem_map.1 hr;rfl
theorem ones_ms (l:List Mt):∀r∈l.map mcells,∀u∈r,u.oneCell'=true:=by
 intro r hr;obtain⟨m, -,rfl⟩:=List.mem_map.1 hr;exact mcells_ones m
theorem even_bys (l:List ByteArray):Even 1 (l.map fun s=>[Value.string s]):=by
 intro r hr;obtain⟨m, -,rfl⟩:=List.mem_map.1 hr;rfl
theorem ones_bys (l:List ByteArray):∀r∈l.map (fun s=>[Value.string s]),∀u∈r,u.oneCell'=true:=by
 intro r hr;obtain⟨m, -,rfl⟩:=List.mem_map.1 hr;intro u hu;obtain rfl:=List.mem_singleton.1 hu;rfl
theorem sep_any:∀(k:Nat) (e:Ex),nodesE e≤k→k≤1000000→AllE NodeOk e→∀(w:World) (cs:List Value),RdE w w.heap.size e cs→
  Calls Tryz.prog 32 #[.agg cs.toArray] w (TreePost w 0 e)
 |0,e,h,_,_,_,_,_=>absurd (nodes_pos e) (by omega)
 |k+1,e,hk,hk2,hok,w,cs,hr=>by
  obtain⟨vm,vb,vk,rfl,hm,hy,hT⟩:=hr.open_;obtain⟨Am,nm,km,rfl⟩:∃A n c,vm= .slice A n c:=by obtain⟨A,c,h, -⟩:=hm;exact⟨A,_,c,h⟩
  obtain⟨Ab,nb,kb,rfl⟩:∃A n c,vb= .slice A n c:=by obtain⟨A,c,h, -⟩:=hy;exact⟨A,_,c,h⟩
  obtain⟨A,n,c,rfl,hn, -⟩:=hT.slice;have hne:=nodes_eq e;have hkl:=kids_len_le e.kids;have HIH:=Lib.hid (fun(e':Ex) (w':World) (cs:List Value) (h1:e'∈e.kids) (h2:RdE w' w'.heap.size e' cs)=>sep_any k e' (by have:=nodesKs_mem h1;omega) (by omega) (hok.kid h1) w' cs h2);have HT:=Lib.hid hT;have HN:=Lib.hid hn;have HMY:=Lib.hid (And.intro hm hy);have hnb:n≤1000000:=by omega
  obtain⟨hb1,hb2,hG⟩:=boxes2 w 34 34 (cells11 e (.slice Am nm km) (.slice Ab nb kb) (.slice A n c)).toArray (numL 0 0).toArray;have hs2:((w.alloc (.cells (cells11 e (.slice Am nm km) (.slice Ab nb kb) (.slice A n c)).toArray 34)).alloc (.cells (numL 0 0).toArray 34)).heap.size=w.heap.size+2:=by simp
  have hx:=hok.top.2;have HCM:=Lib.hid (fun w' (g:Grew ((w.alloc (.cells (cells11 e (.slice Am nm km) (.slice Ab nb kb) (.slice A n c)).toArray 34)).alloc (.cells (numL 0 0).toArray 34)) w')=>cloneM_any (.slice Am nm km) (e.ms.map mcells) w' (hm.keep (Nat.le_refl _) (hG.trans g).size (hG.trans g) (fun _ _ h=>h)) (even_ms e.ms) (ones_ms e.ms) (by have:=hx.2.2.2.1;simp;omega));have HCB:=Lib.hid (fun w' (g:Grew ((w.alloc (.cells (cells11 e (.slice Am nm km) (.slice Ab nb kb) (.slice A n c)).toArray 34)).alloc (.cells (numL 0 0).toArray 34)) w')=>cloneS_any (.slice Ab nb kb) (e.bys.map fun s=>[Value.string s]) w' (hy.keep (Nat.le_refl _) (hG.trans g).size (hG.trans g) (fun _ _ h=>h)) (even_bys e.bys) (ones_bys e.bys) (by have:=hx.2.2.2.2;simp;omega));clear hx;clear hr hm hy hT hn hne hkl hk hk2 hok;go_enter Tryz.func32,Tryz.ntmps32;go_upto_region 1 with fail;change Code.wp _ _ _ _ ((w.alloc (.cells (cells11 e (.slice Am nm km) (.slice Ab nb kb) (.slice A n c)).toArray 34)).alloc (.cells (numL 0 0).toArray 34));generalize (w.alloc (.cells (cells11 e (.slice Am nm km) (.slice Ab nb kb) (.slice A n c)).toArray 34)).alloc (.cells (numL 0 0).toArray 34)=w1 at*;have HS:=Lib.hid hs2;clear hs2;refine late_region [(7,fun w'=>w'.cell? ⟨w.heap.size,8,none⟩=some (.slice Am nm km)),(9,fun w'=>w'.cell? ⟨w.heap.size,9,none⟩=some (.slice Ab nb kb))] (by kernel_rfl) (by intro pp hp;rcases List.mem_cons.1 hp with rfl|hp;exact hb1.drew.cell 8;obtain rfl:=List.mem_singleton.1 hp;exact hb1.drew.cell 9) ?_;intro hcl hkn
  refine' take_pure (i:=0) (v:=_) rfl (by kernel_rfl) (by kernel_rfl) (by kernel_rfl) hcl hkn (by rfl) (fun _ _ _ h=>h) rfl ?_ ?_
  rotate_left
  ·intro w';go_simp;try with_reducible rfl
  clear hcl hkn;intro hcl hkn;simp only[List.getElem_toArray,List.getElem_cons_zero,List.getElem_cons_succ,Act.put,List.setIfInBounds_toArray,List.set_cons_zero,List.set_cons_succ]
  refine' take_load 7 _ (i:=1) (v:=_) rfl (by kernel_rfl) (by kernel_rfl) (by kernel_rfl) hcl hkn (by rfl) 0 rfl (by kernel_rfl) (fun _ _ _ h=>h) rfl ?_ ?_
  rotate_left
  ·rintro w' hc;go_simp;try with_reducible rfl
  clear hcl hkn;intro hcl hkn;simp only[List.getElem_toArray,List.getElem_cons_zero,List.getElem_cons_succ,Act.put,List.setIfInBounds_toArray,List.set_cons_zero,List.set_cons_succ]
  refine' take_pure (i:=3) (v:=_) rfl (by kernel_rfl) (by kernel_rfl) (by kernel_rfl) hcl hkn (by rfl) (fun _ _ _ h=>h) rfl ?_ ?_
  rotate_left
  ·intro w';go_simp;try with_reducible rfl
  clear hcl hkn;intro hcl hkn;simp only[List.getElem_toArray,List.getElem_cons_zero,List.getElem_cons_succ,Act.put,List.setIfInBounds_toArray,List.set_cons_zero,List.set_cons_succ]
  refine' take_load 9 _ (i:=4) (v:=_) rfl (by kernel_rfl) (by kernel_rfl) (by kernel_rfl) hcl hkn (by rfl) 1 rfl (by kernel_rfl) (fun _ _ _ h=>h) rfl ?_ ?_
  rotate_left
  ·rintro w' hc;go_simp;try with_reducible rfl
  clear hcl hkn;intro hcl hkn;simp only[List.getElem_toArray,List.getElem_cons_zero,List.getElem_cons_succ,Act.put,List.setIfInBounds_toArray,List.set_cons_zero,List.set_cons_succ];refine one_next hcl (i:=2) (by kernel_rfl) rfl rfl (fun K hK=>?_);go_simp;refine(HCM.out _ (Keeps.drew (Grew.refl w1))).mono ?_;rintro e2 w2 ⟨vM,rfl,qM,k2⟩;have b2:=hb1.drew.grew k2;refine hK _ _ (known_two (.inr (b2.cell 8)) (.inr (b2.cell 9))) ?_;have g2:Grew w1 w2:=(Keeps.drew (Grew.refl w1)).trans k2;have HQM:=Lib.hid qM;obtain⟨AM,nM,kM,rfl, -⟩:=qM.slice;clear qM k2;clear hK K hcl hkn;intro hcl hkn
  try simp only[List.getElem_toArray,List.getElem_cons_zero,List.getElem_cons_succ,Act.put,List.setIfInBounds_toArray,List.set_cons_zero,List.set_cons_succ]
  refine' take_pure (i:=6) (v:=_) rfl (by kernel_rfl) (by kernel_rfl) (by kernel_rfl) hcl hkn (by rfl) (fun _ _ _ h=>h) rfl ?_ ?_
  rotate_left
  ·intro w';go_simp;try with_reducible rfl
  clear hcl hkn;intro hcl hkn;simp only[List.getElem_toArray,List.getElem_cons_zero,List.getElem_cons_succ,Act.put,List.setIfInBounds_toArray,List.set_cons_zero,List.set_cons_succ];refine one_next hcl (i:=5) (by kernel_rfl) rfl rfl (fun K hK=>?_);go_simp;refine(HCB.out _ g2).mono ?_;rintro e3 w3 ⟨vB,rfl,qB,k3⟩;have b3:=b2.grew k3;refine hK _ _ (known_two (.inr (b3.cell 8)) (.inr (b3.cell 9))) ?_;have HQB:=Lib.hid qB;have HK3:=Lib.hid k3;obtain⟨AB,nB,kB,rfl, -⟩:=qB.slice;have c8:w3.cell? ⟨w.heap.size,8,none⟩=some (.slice Am nm km):=b3.cell 8;have f8:w3.frozen? ⟨w.heap.size,8,none⟩=false:=b3.frozen 8;clear qB k3;clear hK K hcl hkn;intro hcl hkn
  try simp only[List.getElem_toArray,List.getElem_cons_zero,List.getElem_cons_succ,Act.put,List.setIfInBounds_toArray,List.set_cons_zero,List.set_cons_succ]
  refine one_next hcl (i:=7) (by kernel_rfl) rfl rfl (fun K hK=>?_);go_simp;have b4:=b3.set_ 8 (.slice AM nM kM);refine hK _ _ (known_two (.inl (by kernel_rfl)) (.inr (b4.cell 9))) ?_;have c9:(w3.setCell ⟨w.heap.size,8,none⟩ (.slice AM nM kM)).cell? ⟨w.heap.size,9,none⟩=some (.slice Ab nb kb):=b4.cell 9;have f9:(w3.setCell ⟨w.heap.size,8,none⟩ (.slice AM nM kM)).frozen? ⟨w.heap.size,9,none⟩=false:=b4.frozen 9;clear c8 f8;clear hK K hcl hkn;intro hcl hkn
  try simp only[List.getElem_toArray,List.getElem_cons_zero,List.getElem_cons_succ,Act.put,List.setIfInBounds_toArray,List.set_cons_zero,List.set_cons_succ]
  refine' take_pure (i:=8) (v:=_) rfl (by kernel_rfl) (by kernel_rfl) (by kernel_rfl) hcl hkn (by rfl) (fun _ _ _ h=>h) rfl ?_ ?_
  rotate_left
  ·intro w';go_simp;try with_reducible rfl
  clear hcl hkn;intro hcl hkn;simp only[List.getElem_toArray,List.getElem_cons_zero,List.getElem_cons_succ,Act.put,List.setIfInBounds_toArray,List.set_cons_zero,List.set_cons_succ];refine one_next hcl (i:=9) (by kernel_rfl) rfl rfl (fun K hK=>?_);go_simp;have b5:=b4.set_ 9 (.slice AB nB kB);refine hK _ _ (known_two (.inl (by kernel_rfl)) (.inl (by kernel_rfl))) ?_;clear hK K hcl hkn;intro hcl hkn
  try simp only[List.getElem_toArray,List.getElem_cons_zero,List.getElem_cons_succ,Act.put,List.setIfInBounds_toArray,List.set_cons_zero,List.set_cons_succ]
  refine all_done (by kernel_rfl) ?_ _;have b5':Box ((w3.setCell ⟨w.heap.size,8,none⟩ (.slice AM nM kM)).setCell ⟨w.heap.size,9,none⟩ (.slice AB nB kB)) w.heap.size 34 (cells11 e (.slice AM nM kM) (.slice AB nB kB) (.slice A n c)).toArray:=b5;have k5:Keeps (fun i=>i=w.heap.size) w3 ((w3.setCell ⟨w.heap.size,8,none⟩ (.slice AM nM kM)).setCell ⟨w.heap.size,9,none⟩ (.slice AB nB kB)):=Keeps.setCell (S:=fun i=>i=w.heap.size) (p:=⟨w.heap.size,9,none⟩) (Keeps.setCell (S:=fun i=>i=w.heap.size) (p:=⟨w.heap.size,8,none⟩) (Keeps.refl _ w3) (.inl rfl) _) (.inl rfl) _;have g3:Grew w1 w3:=g2.trans HK3.out;have hs2:=HS.out;have hd1:w1.drew.heap.size=w1.heap.size:=rfl;have rM:RdRQ ((w3.setCell ⟨w.heap.size,8,none⟩ (.slice AM nM kM)).setCell ⟨w.heap.size,9,none⟩ (.slice AB nB kB)) (fun b=>w.heap.size+2≤b∧b<w3.heap.size) 3 (.slice AM nM kM) (e.ms.map mcells):=HQM.out.keep (S:=fun i=>i=w.heap.size) (fun b hb=>⟨hb.2,fun h=>by have:=hb.1;omega,by have:=hb.1;omega,by have:=hb.2;have:=HK3.out.size;omega⟩) (Keeps.then_ (Grew.keeps HK3.out) k5 fun i _ h=>h);have rB:RdRQ ((w3.setCell ⟨w.heap.size,8,none⟩ (.slice AM nM kM)).setCell ⟨w.heap.size,9,none⟩ (.slice AB nB kB)) (fun b=>w.heap.size+2≤b∧b<w3.heap.size) 1 (.slice AB nB kB) (e.bys.map fun s=>[Value.string s]):=HQB.out.keep (S:=fun i=>i=w.heap.size) (fun b hb=>⟨hb.2,fun h=>by have:=hb.1;have:=g2.size;omega,by have:=hb.1;have:=g2.size;omega,hb.2⟩) k5;have hg5:Grew w ((w3.setCell ⟨w.heap.size,8,none⟩ (.slice AM nM kM)).setCell ⟨w.heap.size,9,none⟩ (.slice AB nB kB)):=Keeps.then_ (hG.trans g3) k5 fun i hi e=>by omega
  have bz:Box ((w3.setCell ⟨w.heap.size,8,none⟩ (.slice AM nM kM)).setCell ⟨w.heap.size,9,none⟩ (.slice AB nB kB)) (w.heap.size+1) 34 (numL 0 0).toArray:=((hb2.grew g3).far (p:=⟨w.heap.size,8,none⟩) (by simp) _).far (p:=⟨w.heap.size,9,none⟩) (by simp) _;have hs5:=k5.size;have HB:=Lib.hid (And.intro b5' (And.intro bz (And.intro hg5 (And.intro rM rB))));have HSZ:=Lib.hid (show w.heap.size+2≤((w3.setCell ⟨w.heap.size,8,none⟩ (.slice AM nM kM)).setCell ⟨w.heap.size,9,none⟩ (.slice AB nB kB)).heap.size∧w3.heap.size≤((w3.setCell ⟨w.heap.size,8,none⟩ (.slice AM nM kM)).setCell ⟨w.heap.size,9,none⟩ (.slice AB nB kB)).heap.size by have:=g3.size;omega);clear b5 b5' k5 g3 hs2 hd1 rM rB hg5 bz b2 b3 b4 c9 f9 hb1 hb2 hG g2 hs5 HQM HQB HCM HCB;generalize w3.heap.size=z3 at*;generalize (w3.setCell ⟨w.heap.size,8,none⟩ (.slice AM nM kM)).setCell ⟨w.heap.size,9,none⟩ (.slice AB nB kB)=w5 at*;clear hcl hkn;have c10:w5.cell? ⟨w.heap.size,10,none⟩=some (.slice A n c):=HB.out.1.cell 10;go_upto_region 3 with(first|((with_reducible refine at_make 32 (.const (.int .i64 0)) (.tmp 16) rfl ?_);refine make_X rfl (.const (.int .i64 0)) (.tmp 16) rfl n rfl rfl hnb ?_;intro w6 hM6 g6));have HM6:=Lib.hid hM6;have HB6:=Lib.hid (show Box w6 w.heap.size 34 (cells11 e (.slice AM nM kM) (.slice AB nB kB) (.slice A n c)).toArray∧Box w6 (w.heap.size+1) 34 (numL 0 0).toArray∧Grew w w6∧RdRQ w6 (fun b=>w.heap.size+2≤b∧b<w5.heap.size) 3 (.slice AM nM kM) (e.ms.map mcells)∧RdRQ w6 (fun b=>w.heap.size+2≤b∧b<w5.heap.size) 1 (.slice AB nB kB) (e.bys.map fun s=>[Value.string s])from⟨HB.out.1.grew g6,HB.out.2.1.grew g6,HB.out.2.2.1.trans g6,HB.out.2.2.2.1.keep (S:=fun _=>False) (fun b hb=>⟨by have:=HSZ.out;omega,fun h=>h,hb.1,by have:=HSZ.out;omega⟩) g6,HB.out.2.2.2.2.keep (S:=fun _=>False) (fun b hb=>⟨by have:=HSZ.out;omega,fun h=>h,hb.1,by have:=HSZ.out;omega⟩) g6⟩);have HS6:=Lib.hid (show w.heap.size+2≤w5.heap.size∧w5.heap.size≤w6.heap.size from⟨HSZ.out.1,g6.size⟩);clear hM6 g6 c10 HB HSZ HK3;have c10:w6.cell? ⟨w.heap.size,10,none⟩=some (.slice A n c):=HB6.out.1.cell 10;generalize w5.heap.size=M at*;go_wp2_with fail;go_loopw [3,5,21] (fun s _ i wr=>∃(j:Nat) (rows:List (List Value)),j≤n∧i= .int .i64 (j:Nat)∧MineR wr M 34 11 s rows∧Trees wr (Offs 0 M s wr.heap.size) (e.kids.take j) rows∧Keeps (fun i=>M≤i) w6 wr) (fun _ _ i _=>n-(intOf i).toNat)
  case atStart=>exact⟨0,[],by omega,rfl,HM6.out,by simpa using Trees.nil _ _,Keeps.refl _ _⟩
  case round=>
   obtain⟨j,rows,hj,rfl,hM,hTr,hGr⟩:=hrel;obtain⟨As,ns,ks,rfl,hns, -⟩:=hM.slice;have HM:=Lib.hid hM;have HTr:=Lib.hid hTr;have HNS:=Lib.hid hns;have HGr:=Lib.hid hGr;clear hM hTr hns hGr;by_cases hlt:j<n
   ·have hjl:j<e.kids.length:=by rw[←HN.out];exact hlt
    obtain⟨e',he'⟩:∃e',e.kids[j]? =some e':=⟨_,List.getElem?_eq_getElem hjl⟩;have hmem:e'∈e.kids:=List.mem_of_getElem? he';have hgw:Grew w wr:=Keeps.then_ HB6.out.2.2.1 HGr.out fun i hi (e:M≤i)=>by have:=HS6.out;omega
    have hTw:RdT wr wr.heap.size (.slice A n c) e.kids:=HT.out.grew hgw;obtain⟨b,o,cs,rfl,hb,hrg,hre⟩:=hTw.at_ he';obtain⟨vm',vb',vk',hcs,hm',hy',hT'⟩:=hre.open_;subst hcs;obtain⟨A1,n1,c1,rfl⟩:∃A n c,vm'= .slice A n c:=by obtain⟨A,c,h, -⟩:=hm';exact⟨A,_,c,h⟩
    obtain⟨A2,n2,c2,rfl⟩:∃A n c,vb'= .slice A n c:=by obtain⟨A,c,h, -⟩:=hy';exact⟨A,_,c,h⟩
    obtain⟨A3,n3,c3,rfl, -⟩:=hT'.slice;have hsw:M≤wr.heap.size:=by have:=HGr.out.size;have:=HS6.out;omega
    have HI:=Lib.hid (fun w' (g:Grew wr w')=>HIH.out e' w' _ hmem (hre.grew g));have HE:=Lib.hid he';have HRg:=Lib.hid hrg;have HSW:=Lib.hid hsw;clear hjl he' hmem hTw hrg hre hm' hy' hT' hsw hgw hb;go_wp2_with(first|((with_reducible refine at_load 34 (.tmp 23) rfl ?_);refine wpList_load_mid rfl 34 (.tmp 23) rfl b (o+j*11) rfl (cells11 e' (.slice A1 n1 c1) (.slice A2 n2 c2) (.slice A3 n3 c3)) _ HRg.out Tryz.underlying34 rfl infoX ?_)|((with_reducible refine at_store 34 (.tmp 5) (.tmp 24) rfl ?_);refine stN 34 (.tmp 5) (.tmp 24) (wr.heap.size) (cells11 e' (.slice A1 n1 c1) (.slice A2 n2 c2) (.slice A3 n3 c3)) (numL 0 0) 34 infoX rfl (cells11_ones _ _ _ _ _ _ _ _ _ _) rfl rfl rfl rfl (Box.new wr 34 _) ?_;intro w7 hb7 k7 d7;have g7:Grew wr w7:=Keeps.then_ ((Grew.refl wr).alloc _) k7 (fun i hi e=>by omega))|((with_reducible refine at_load 34 (.tmp 5) rfl ?_);refine ldN 34 Tryz.underlying34 rfl (.tmp 5) (wr.heap.size) (cells11 e' (.slice A1 n1 c1) (.slice A2 n2 c2) (.slice A3 n3 c3)) 34 infoX rfl rfl rfl hb7 ?_));refine(HI.out _ g7).mono ?_;rintro e2 w8 ⟨cs3,rfl,hr3,k3⟩;obtain⟨vm3,vb3,vk3,rfl,hm3,hy3,hT3⟩:=hr3.open_;obtain⟨Am3,nm3,km3,rfl, -⟩:=hm3.slice;obtain⟨Ab3,nb3,kb3,rfl, -⟩:=hy3.slice;obtain⟨A3',n3',c3',rfl, -⟩:=hT3.slice;have HR3:=Lib.hid (RdEQ.two_le (M':=wr.heap.size) hr3 g7.size);have HK3:=Lib.hid (g7.trans k3);have hl3:=cells11_len e' (.slice Am3 nm3 km3) (.slice Ab3 nb3 kb3) (.slice A3' n3' c3');clear k3 HI hr3 hm3 hy3 hT3 g7 hb7 k7 d7;go_wp2_with(at_builtin;refine app_tree rfl (.tmp 25) (.tmp 28) rfl rfl rfl (Nat.le_refl _) HM.out HTr.out (Nat.zero_le _) HSW.out HK3.out HR3.out (by rw[List.length_take];omega) ?_;intro A6 n6 c6 w9 H6);go_wp2_with fail;go_roundw
    case rel=>
     obtain⟨rows6,hM6,hT6,hG6⟩:=H6.out;have hes:e.kids.take j++[e']=e.kids.take (j+1):=by rw[List.take_add_one,HE.out];simp
     rw[hes]at hT6;exact⟨j+1,_,by omega,by go_num,hM6,hT6,Keeps.trans HGr.out hG6⟩
    case measure=>simp[intOf];omega
   obtain rfl:j=n:=by omega
   have hes:e.kids.take j=e.kids:=List.take_of_length_le (by rw[←HN.out];exact Nat.le_refl _);have hTr:=HTr.out;have hM:=HM.out;rw[hes]at hTr;have hm1:=hM.lt;have hsz:=HS6.out;have hsr:=HGr.out.size;have hTQ:RdTQ wr (Two 0 M wr.heap.size) (.slice As ns ks) e.kids:=hM.treesQ hTr.1 (fun b hb=>⟨.inr (hm1 b hb).1,(hm1 b hb).2⟩) fun i e' cs h1 h2=>RdEQ.keep (S:=fun _=>False) (fun b hb=>⟨hb.2.1,fun h=>h,hb.1,hb.2.1⟩) (Grew.refl wr) e' cs (hTr.2 i e' cs h1 h2)
   have hbr:=HB6.out.1.keep HGr.out (by omega);have hb2:=HB6.out.2.1.keep HGr.out (by omega);have hgw:Grew w wr:=Keeps.then_ HB6.out.2.2.1 HGr.out fun i hi (e:M≤i)=>by omega
   have f10:=hbr.frozen 10;have c10':wr.cell? ⟨w.heap.size,10,none⟩=some (.slice A j c):=hbr.cell 10;have hb4:Box (wr.setCell ⟨w.heap.size,10,none⟩ (.slice As ns ks)) w.heap.size 34 ((cells11 e (.slice AM nM kM) (.slice AB nB kB) (.slice As ns ks))).toArray:=hbr.set_ 10 (.slice As ns ks);have k4:Keeps (fun i=>i=w.heap.size) wr (wr.setCell ⟨w.heap.size,10,none⟩ (.slice As ns ks)):=Keeps.setCell (S:=fun i=>i=w.heap.size) (p:=⟨w.heap.size,10,none⟩) (Keeps.refl _ wr) (.inl rfl) _;have hsz4:(wr.setCell ⟨w.heap.size,10,none⟩ (.slice As ns ks)).heap.size=wr.heap.size:=by simp
   have b24:=hb2.far (p:=⟨w.heap.size,10,none⟩) (by simp) (.slice As ns ks);have rM4:RdRQ (wr.setCell ⟨w.heap.size,10,none⟩ (.slice As ns ks)) (fun b=>(w.heap.size+2≤b)∧b<M) 3 (.slice AM nM kM) (e.ms.map mcells):=HB6.out.2.2.2.1.keep (S:=fun i=>M≤i∨i=w.heap.size) (fun b hb=>⟨by omega,fun h=>by rcases h with h|h<;>omega,hb⟩) (Keeps.then_ (Keeps.mono HGr.out fun i _ h=> .inl h) k4 fun i _ h=> .inr h);have rB4:RdRQ (wr.setCell ⟨w.heap.size,10,none⟩ (.slice As ns ks)) (fun b=>(w.heap.size+2≤b)∧b<M) 1 (.slice AB nB kB) (e.bys.map fun s=>[Value.string s]):=HB6.out.2.2.2.2.keep (S:=fun i=>M≤i∨i=w.heap.size) (fun b hb=>⟨by omega,fun h=>by rcases h with h|h<;>omega,hb⟩) (Keeps.then_ (Keeps.mono HGr.out fun i _ h=> .inl h) k4 fun i _ h=> .inr h);have HE4:=Lib.hid (And.intro rM4 (And.intro rB4 (And.intro hTQ (And.intro k4 (And.intro hsz4 hgw)))));clear hTQ hbr hb2 hgw k4 hsz4 hM hTr HM HTr HNS hes hm1 hsz c10 rM4 rB4 hsr;go_upto_region 9 with fail;generalize wr.setCell ⟨w.heap.size,10,none⟩ (.slice As ns ks)=w4 at*;go_wp2_with(first|((with_reducible refine at_load 34 (.tmp 1) rfl ?_);refine ldN 34 Tryz.underlying34 rfl (.tmp 1) (w.heap.size) (cells11 e (.slice AM nM kM) (.slice AB nB kB) (.slice As ns ks)) 34 infoX rfl rfl rfl hb4 ?_)|((with_reducible refine at_store 34 (.tmp 2) (.tmp 33) rfl ?_);refine stN 34 (.tmp 2) (.tmp 33) (w.heap.size+1) (cells11 e (.slice AM nM kM) (.slice AB nB kB) (.slice As ns ks)) (numL 0 0) 34 infoX rfl (cells11_ones _ _ _ _ _ _ _ _ _ _) rfl rfl rfl rfl b24 ?_;intro w8 hb8 k8 d8));refine bodyPost_ret (results_one rfl rfl infoX Tryz.underlying34 rfl hb8) rfl ?_;obtain⟨rM4,rB4,hTQ,k4,hsz4,hgw⟩:=HE4.out;have hsz:=HS6.out;have hsr:=HGr.out.size;have hgw4:Grew w w4:=Keeps.then_ hgw k4 fun i hi e=>by omega
   refine⟨_,rfl,?_,Keeps.then_ hgw4 k8 (fun i hi e=>by omega)⟩;refine two_final (M:=w.heap.size+2) k8 (Nat.zero_le _) (Nat.le_refl _) (RdEQ.mk_ ?_ ?_ ?_)
   ·exact rM4.keep (S:=fun _=>False) (fun b hb=>⟨by omega,fun h=>h,.inr hb.1,by omega⟩) (Grew.refl _)
   ·exact rB4.keep (S:=fun _=>False) (fun b hb=>⟨by omega,fun h=>h,.inr hb.1,by omega⟩) (Grew.refl _)
   exact hTQ.keep (S:=fun i=>i=w.heap.size) (fun b hb=>⟨hb.2,fun h=>by rcases hb.1 with h1|h1<;>omega,by rcases hb.1 with h1|h1;omega;exact .inr (by omega),by have:=hb.2;omega⟩) k4
theorem nodesKs_map {f:Ex→Ex}:∀(es:List Ex),(∀e∈es,nodesE (f e)≤nodesE e)→nodesKs (es.map f)≤nodesKs es
 |[],_=>Nat.le_refl _
 |e::es,h=>by
  rw[List.map_cons];unfold nodesKs;have h1:=h e List.mem_cons_self;have h2:=nodesKs_map es fun e' he=>h e' (List.mem_cons_of_mem _ he)
  omega
theorem nodes_foldR:∀(n:Nat) (e:Ex),nodesE e≤n→nodesE (foldR e)≤nodesE e
 |0,e,h=>absurd (nodes_pos e) (by omega)
 |n+1,e,h=>by
  rw[foldR_eq];have h2:=nodes_eq e;rcases foldN_cases (e.withKids (e.kids.map foldR))with h1|⟨x,y, -, -,h1⟩
  ·rw[h1,nodes_eq (e.withKids _),wk_kids];have:=nodesKs_map e.kids fun e' he=>nodes_foldR n e' (by have:=nodesKs_mem he;omega)
   omega
  rw[h1];have:=nodes_pos e;exact this
theorem txt_num (x y:Int):TxtE (numE x y):=by
 have h0:Txt (numE x y).name:=⟨fun i h=>absurd h (by show ¬i<0;omega),by show 0≤1000;omega⟩;exact⟨h0,(fun m hm=>nomatch hm),(fun m hm=>nomatch hm),Nat.zero_le _,Nat.zero_le _⟩
theorem ok_foldR:∀(n:Nat) (e:Ex),nodesE e≤n→AllE NodeOk e→AllE NodeOk (foldR e)
 |0,e,h,_=>absurd (nodes_pos e) (by omega)
 |n+1,e,h,hok=>by
  rw[foldR_eq];have h2:=nodes_eq e;rcases foldN_cases (e.withKids (e.kids.map foldR))with h1|⟨x,y,hx,hy,h1⟩
  ·rw[h1,AllE_iff,wk_kids];refine⟨?_,fun k hk=>?_⟩
   ·have:=hok.top;cases e;exact this
   obtain⟨e',he',rfl⟩:=List.mem_map.1 hk;exact ok_foldR n e' (by have:=nodesKs_mem he';omega) (hok.kid he')
  rw[h1,AllE_iff];have z0:I64 0:=zero64.1;exact⟨⟨⟨z0,z0,z0,z0,z0,hx,hy⟩,txt_num x y⟩,(fun k hk=>nomatch hk)⟩
theorem pFold_any (e:Ex) (hn:nodesE e≤1000000) (hok:AllE NodeOk e) (w:World) (cs:List Value) (hwt:WTab w) (hr:RdE w w.heap.size e cs):
  Calls Tryz.prog 10 #[.agg cs.toArray] w (TreePost w 0 (foldV e)):=by
 have hone:∀v∈cs,v.oneCell'=true:=cells11_one (RdE.toQ (Q:=fun _=>True) (fun _ _=>trivial) e cs hr);obtain⟨vm,vb,vk,rfl, -⟩:=hr.open_;obtain⟨hb1,hb2,hG⟩:=boxes2 w 34 34 (cells11 e vm vb vk).toArray (numL 0 0).toArray;have hs2:((w.alloc (.cells (cells11 e vm vb vk).toArray 34)).alloc (.cells (numL 0 0).toArray 34)).heap.size=w.heap.size+2:=by simp
 have HR:=Lib.hid (fun w' (g:Grew w w')=>hr.grew g);have HVd:=Lib.hid (fun w' (g:Grew w w')=>pvalid_any e hn hok w' (cells11 e vm vb vk) (hwt.grew g) (hr.grew g));obtain⟨z,hz⟩:∃z,validE e=z:=⟨_,rfl⟩;rw[hz]at HVd;have HZ:=Lib.hid hz;have HOK:=Lib.hid hok;have HN:=Lib.hid hn;clear hr hok hn hz hwt;go_enter Tryz.func10,Tryz.ntmps10;go_upto_region 1 with fail;change Code.wp _ _ _ _ ((w.alloc (.cells (cells11 e vm vb vk).toArray 34)).alloc (.cells (numL 0 0).toArray 34));generalize (w.alloc (.cells (cells11 e vm vb vk).toArray 34)).alloc (.cells (numL 0 0).toArray 34)=w1 at*;have HS:=Lib.hid hs2;have HG:=Lib.hid hG;clear hs2 hG;by_cases hz0:z=0
 ·subst hz0;have HF:=Lib.hid (show foldV e=foldR e by unfold foldV;rw[if_pos HZ.out]);go_upto_region 3 with(first|((with_reducible refine at_load 34 (.tmp 1) rfl ?_);refine ldN 34 Tryz.underlying34 rfl (.tmp 1) (w.heap.size) (cells11 e vm vb vk) 34 infoX rfl rfl rfl hb1 ?_)|(go_at_call 19;(with_reducible refine(HVd.out _ HG.out).mono ?_);rintro e3 w3 ⟨rfl,k3⟩));have hb3:=hb1.grew k3;have hb4:=hb2.grew k3;have HG3:=Lib.hid (HG.out.trans k3);have hs3:=k3.size;have HS3:=Lib.hid (show w.heap.size+2≤w3.heap.size by have:=HS.out;omega);have HSi:=Lib.hid (psimp_any (nodesE e) e (Nat.le_refl _) HN.out (foldok_of HOK.out HZ.out) w3 w3.heap.size (cells11 e vm vb vk) (Nat.le_refl _) (HR.out w3 HG3.out));have HSe:=Lib.hid (fun w' cs' (h:RdE w' w'.heap.size (foldR e) cs')=>sep_any (nodesE (foldR e)) (foldR e) (Nat.le_refl _) (Nat.le_trans (nodes_foldR (nodesE e) e (Nat.le_refl _)) HN.out) (ok_foldR (nodesE e) e (Nat.le_refl _) HOK.out) w' cs' h);clear hb1 hb2 k3 hs3 HVd;go_wp2_with(first|((with_reducible refine at_load 34 (.tmp 1) rfl ?_);refine ldN 34 Tryz.underlying34 rfl (.tmp 1) (w.heap.size) (cells11 e vm vb vk) 34 infoX rfl rfl rfl hb3 ?_)|(go_at_call 33;(with_reducible refine HSi.out.mono ?_);rintro e4 w4 ⟨Y,rfl,hrY,k4⟩;have HY:=Lib.hid (RdEQ.toB (B:=w4.heap.size) (fun b hb=>hb.2) _ _ hrY);clear hrY;have hs4:=k4.size;have HS4:=Lib.hid (Nat.le_trans HS3.out hs4);clear hs4)|(go_at_call 32;(with_reducible refine(HSe.out _ _ HY.out).mono ?_);rintro e5 w5 ⟨X,rfl,hrX,k5⟩;have hX1:=cells11_one hrX;have hXl:X.length=11:=(by obtain⟨a,b,c,h, -⟩:=hrX.open_;rw[h];rfl);have HX:=Lib.hid hrX;have HXl:=Lib.hid hXl;clear hrX hXl;have hb5:=hb4.grew (k4.trans k5))|((with_reducible refine at_store 34 (.tmp 2) (.tmp 10) rfl ?_);refine stN 34 (.tmp 2) (.tmp 10) (w.heap.size+1) X (numL 0 0) 34 (by rw[HXl.out];exact infoX) HXl.out.symm hX1 rfl rfl rfl rfl hb5 ?_;intro w8 hb8 k8 d8));refine bodyPost_ret (results_one rfl rfl (by rw[HXl.out];exact infoX) Tryz.underlying34 rfl hb8) rfl ?_;refine⟨X,rfl,?_,Keeps.then_ (HG3.out.trans (k4.trans k5)) k8 (fun i hi e=>by omega)⟩;rw[HF.out];exact two_final k8 (Nat.zero_le _) HS4.out HX.out
 have t1:(z==0)=false:=by rw[beq_eq_false_iff_ne];exact hz0
 have t2:(z !=0)=true:=by rw[bne,t1];rfl
 have HF:=Lib.hid (show foldV e=e by unfold foldV;rw[if_neg (by rw[HZ.out];exact hz0)]);clear hz0;go_upto_region 2 with(first|((with_reducible refine at_load 34 (.tmp 1) rfl ?_);refine ldN 34 Tryz.underlying34 rfl (.tmp 1) (w.heap.size) (cells11 e vm vb vk) 34 infoX rfl rfl rfl hb1 ?_)|(go_at_call 19;(with_reducible refine(HVd.out _ HG.out).mono ?_);rintro e3 w3 ⟨rfl,k3⟩));have hb3:=hb1.grew k3;have hb4:=hb2.grew k3;have HG3:=Lib.hid (HG.out.trans k3);have hs3:=k3.size;have HS3:=Lib.hid (show w.heap.size+2≤w3.heap.size by have:=HS.out;omega);have HSe:=Lib.hid (sep_any (nodesE e) e (Nat.le_refl _) HN.out HOK.out w3 (cells11 e vm vb vk) (HR.out w3 HG3.out));clear hb1 hb2 k3 hs3 HVd;go_wp2_with(first|((with_reducible refine at_load 34 (.tmp 1) rfl ?_);refine ldN 34 Tryz.underlying34 rfl (.tmp 1) (w.heap.size) (cells11 e vm vb vk) 34 infoX rfl rfl rfl hb3 ?_)|(go_at_call 32;(with_reducible refine HSe.out.mono ?_);rintro e5 w5 ⟨X,rfl,hrX,k5⟩;have hX1:=cells11_one hrX;have hXl:X.length=11:=(by obtain⟨a,b,c,h, -⟩:=hrX.open_;rw[h];rfl);have HX:=Lib.hid hrX;have HXl:=Lib.hid hXl;clear hrX hXl;have hb5:=hb4.grew k5)|((with_reducible refine at_store 34 (.tmp 2) (.tmp 7) rfl ?_);refine stN 34 (.tmp 2) (.tmp 7) (w.heap.size+1) X (numL 0 0) 34 (by rw[HXl.out];exact infoX) HXl.out.symm hX1 rfl rfl rfl rfl hb5 ?_;intro w8 hb8 k8 d8));refine bodyPost_ret (results_one rfl rfl (by rw[HXl.out];exact infoX) Tryz.underlying34 rfl hb8) rfl ?_;refine⟨X,rfl,?_,Keeps.then_ (HG3.out.trans k5) k8 (fun i hi e=>by omega)⟩;rw[HF.out];exact two_final k8 (Nat.zero_le _) HS3.out HX.out
end Go.Proofs.YtcimmbhdcebehaaGreatDoor
namespace Go.Proofs.YtcimmbhdcebehaaGreatDoor
open Go.RowKit
def RdRX (w:World) (Q:Nat→Prop) (sz:Nat) (v:Value) (rows:List (List Value)):Prop:=
 ∃A c,v= .slice A rows.length c∧(rows.length≤c∧c≤rows.length)∧(0<rows.length→∃b o,A=some ⟨b,o,none⟩∧Q b∧∀j cs,rows[j]? =some cs→w.rangeAt b (o+j*sz) cs)
mutual
def RdEX (w:World) (Q:Nat→Prop):Ex→List Value→Prop
 | .mk kind fn window offset k num den name ms bys kids,cs=>∃vm vb vk,cs=cells11 (.mk kind fn window offset k num den name ms bys kids) vm vb vk∧RdRX w Q 3 vm (ms.map mcells)∧RdRX w Q 1 vb (bys.map fun s=>[Value.string s])∧
   ∃A c,vk= .slice A kids.length c∧(kids.length≤c∧c≤kids.length)∧(0<kids.length→∃b o,A=some ⟨b,o,none⟩∧Q b∧RdKsX w Q b o kids)
def RdKsX (w:World) (Q:Nat→Prop) (b o:Nat):List Ex→Prop
 |[]=>True
 |e::es=>(∃cs,w.rangeAt b o cs∧RdEX w Q e cs)∧RdKsX w Q b (o+11) es
end
def RdTX (w:World) (Q:Nat→Prop) (v:Value) (es:List Ex):Prop:=
 ∃A c,v= .slice A es.length c∧(es.length≤c∧c≤es.length)∧(0<es.length→∃b o,A=some ⟨b,o,none⟩∧Q b∧RdKsX w Q b o es)
section
variable {w w':World} {Q Q':Nat→Prop} {B:Nat}
theorem RdRX.keep {sz:Nat} {v:Value} {rows:List (List Value)} {S:Nat→Prop} (h:RdRX w Q sz v rows) (hq:∀b,Q b→b<w.heap.size∧¬S b∧Q' b) (hk:Keeps S w w'):RdRX w' Q' sz v rows:=by
 obtain⟨A,c,hv,hc,hx⟩:=h;refine⟨A,c,hv,hc,fun hn=>?_⟩;obtain⟨b,o,e,hb,hcell⟩:=hx hn;exact⟨b,o,e,(hq b hb).2.2,fun j cs hj=>rangeAt_keep (hcell j cs hj) (hq b hb).1 hk (hq b hb).2.1⟩
mutual
theorem RdEX.keep {S:Nat→Prop} (hq:∀b,Q b→b<w.heap.size∧¬S b∧Q' b) (hk:Keeps S w w'):∀(e:Ex) (cs:List Value),RdEX w Q e cs→RdEX w' Q' e cs
 | .mk kind fn window offset k num den name ms bys kids,cs,h=>by
  unfold RdEX at h ⊢;obtain⟨vm,vb,vk,h1,h2,h3,A,c,h4,h5,h6⟩:=h;refine⟨vm,vb,vk,h1,h2.keep hq hk,h3.keep hq hk,A,c,h4,h5,fun hn=>?_⟩;obtain⟨b,o,e1,hb,hks⟩:=h6 hn;exact⟨b,o,e1,(hq b hb).2.2,RdKsX.keep hq hk b hb kids o hks⟩
theorem RdKsX.keep {S:Nat→Prop} (hq:∀b,Q b→b<w.heap.size∧¬S b∧Q' b) (hk:Keeps S w w') (b:Nat) (hb:Q b):∀(es:List Ex) (o:Nat),RdKsX w Q b o es→RdKsX w' Q' b o es
 |[],_,_=>by unfold RdKsX;trivial
 |e::es,o,h=>by
  unfold RdKsX at h ⊢;obtain⟨⟨cs,h1,h2⟩,h3⟩:=h;exact⟨⟨cs,rangeAt_keep h1 (hq b hb).1 hk (hq b hb).2.1,RdEX.keep hq hk e cs h2⟩,RdKsX.keep hq hk b hb es (o+11) h3⟩
end
theorem RdTX.keep {v:Value} {es:List Ex} {S:Nat→Prop} (h:RdTX w Q v es) (hq:∀b,Q b→b<w.heap.size∧¬S b∧Q' b) (hk:Keeps S w w'):RdTX w' Q' v es:=by
 obtain⟨A,c,hv,hc,hx⟩:=h;refine⟨A,c,hv,hc,fun hn=>?_⟩;obtain⟨b,o,e,hb,hks⟩:=hx hn;exact⟨b,o,e,(hq b hb).2.2,RdKsX.keep hq hk b hb es o hks⟩
theorem RdEX.open_ {e:Ex} {cs:List Value} (h:RdEX w Q e cs):∃vm vb vk,cs=cells11 e vm vb vk∧RdRX w Q 3 vm (e.ms.map mcells)∧RdRX w Q 1 vb (e.bys.map fun s=>[Value.string s])∧RdTX w Q vk e.kids:=by
 cases e;unfold RdEX at h;exact h
theorem RdEX.mk_ {e:Ex} {vm vb vk:Value} (h1:RdRX w Q 3 vm (e.ms.map mcells)) (h2:RdRX w Q 1 vb (e.bys.map fun s=>[Value.string s])) (h3:RdTX w Q vk e.kids):RdEX w Q e (cells11 e vm vb vk):=by
 cases e;unfold RdEX;exact⟨vm,vb,vk,rfl,h1,h2,h3⟩
theorem RdTX.nil (w:World) (Q:Nat→Prop):RdTX w Q (.slice none 0 0) []:=⟨none,0,rfl,⟨Nat.le_refl _,Nat.le_refl _⟩,fun h=>absurd h (by simp)⟩
theorem RdRX.nil (w:World) (Q:Nat→Prop) (sz:Nat):RdRX w Q sz (.slice none 0 0) []:=⟨none,0,rfl,⟨Nat.le_refl _,Nat.le_refl _⟩,fun h=>absurd h (by simp)⟩
theorem RdRX.slice {sz:Nat} {v:Value} {rows:List (List Value)} (h:RdRX w Q sz v rows):∃A n c,v= .slice A n c∧n=rows.length∧n≤c:=by
 obtain⟨A,c,rfl,hc,_⟩:=h;exact⟨A,_,c,rfl,rfl,hc.1⟩
theorem RdTX.slice {v:Value} {es:List Ex} (h:RdTX w Q v es):∃A n c,v= .slice A n c∧n=es.length∧n≤c:=by
 obtain⟨A,c,rfl,hc,_⟩:=h;exact⟨A,_,c,rfl,rfl,hc.1⟩
theorem RdKsX.at_ {b:Nat}:∀{es:List Ex} {o j:Nat} {e:Ex},RdKsX w Q b o es→es[j]? =some e→∃cs,w.rangeAt b (o+j*11) cs∧RdEX w Q e cs
 |e::es,o,0,e',h,hj=>by
  unfold RdKsX at h;obtain rfl:e=e':=by simpa using hj
  simpa using h.1
 |e::es,o,j+1,e',h,hj=>by
  unfold RdKsX at h;have:=RdKsX.at_ (j:=j) h.2 (by simpa using hj);rwa[show o+11+j*11=o+(j+1)*11 by omega]at this
theorem RdTX.at_ {A:Option Addr} {n c j:Nat} {es:List Ex} {e:Ex} (h:RdTX w Q (.slice A n c) es) (hj:es[j]? =some e):∃b o cs,A=some ⟨b,o,none⟩∧Q b∧w.rangeAt b (o+j*11) cs∧RdEX w Q e cs:=by
 obtain⟨A',c',hv,_,hx⟩:=h;injection hv with hA;subst hA;have hl:j<es.length:=(List.getElem?_eq_some_iff.1 hj).1;obtain⟨b,o,rfl,hb,hks⟩:=hx (by omega);obtain⟨cs,h1,h2⟩:=hks.at_ hj;exact⟨b,o,cs,rfl,hb,h1,h2⟩
theorem RdKsX.of {b:Nat}:∀{es:List Ex} {o:Nat},(∀(j:Nat) (e:Ex),es[j]? =some e→∃cs,w.rangeAt b (o+j*11) cs∧RdEX w Q e cs)→RdKsX w Q b o es
 |[],_,_=>by unfold RdKsX;trivial
 |e::es,o,h=>by
  unfold RdKsX;refine⟨by simpa using h 0 e rfl,RdKsX.of fun j e' hj=>?_⟩;have:=h (j+1) e' (by simpa using hj);rwa[show o+(j+1)*11=o+11+j*11 by omega]at this
theorem RdRX.loose {sz:Nat} {v:Value} {rows:List (List Value)} (h:RdRX w Q sz v rows):RdRQ w Q sz v rows:=by
 obtain⟨A,c,hv,hc,hx⟩:=h;exact⟨A,c,hv,hc.1,hx⟩
mutual
theorem RdEX.loose:∀{e:Ex} {cs:List Value},RdEX w Q e cs→RdEQ w Q e cs
 | .mk kind fn window offset k num den name ms bys kids,cs,h=>by
  unfold RdEX at h;unfold RdEQ;obtain⟨vm,vb,vk,h1,h2,h3,A,c,h4,h5,h6⟩:=h;refine⟨vm,vb,vk,h1,h2.loose,h3.loose,A,c,h4,h5.1,fun hn=>?_⟩;obtain⟨b,o,e1,hb,hks⟩:=h6 hn;exact⟨b,o,e1,hb,RdKsX.loose hks⟩
theorem RdKsX.loose {b:Nat}:∀{es:List Ex} {o:Nat},RdKsX w Q b o es→RdKsQ w Q b o es
 |[],_,_=>by unfold RdKsQ;trivial
 |e::es,o,h=>by
  unfold RdKsX at h;unfold RdKsQ;obtain⟨⟨cs,h1,h2⟩,h3⟩:=h;exact⟨⟨cs,h1,RdEX.loose h2⟩,RdKsX.loose h3⟩
end
theorem RdTX.loose {v:Value} {es:List Ex} (h:RdTX w Q v es):RdTQ w Q v es:=by
 obtain⟨A,c,hv,hc,hx⟩:=h;refine⟨A,c,hv,hc.1,fun hn=>?_⟩;obtain⟨b,o,e,hb,hks⟩:=hx hn;exact⟨b,o,e,hb,RdKsX.loose hks⟩
end
theorem RdEX.two_le {w:World} {B M M':Nat} {e:Ex} {cs:List Value} (h:RdEX w (Two B M w.heap.size) e cs) (hM:M'≤M):RdEX w (Two B M' w.heap.size) e cs:=
 RdEX.keep (S:=fun _=>False) (fun b hb=>⟨hb.2,fun h=>h,by have:=hb.1;omega,hb.2⟩) (Grew.refl w) e cs h
end Go.Proofs.YtcimmbhdcebehaaGreatDoor
namespace Go.Proofs.YtcimmbhdcebehaaGreatDoor
open Go.RowKit Pl
def GoodN (e:Ex):Prop:=NodeOk e∧nodeV e=0
def GoodT (N D:Nat) (e:Ex):Prop:=nodesE e≤N∧depthE e≤D∧AllE GoodN e
theorem GoodT.more {N D N' D':Nat} {e:Ex} (h:GoodT N D e) (hN:N≤N') (hD:D≤D'):GoodT N' D' e:=⟨Nat.le_trans h.1 hN,Nat.le_trans h.2.1 hD,h.2.2⟩
theorem num_node {n d:Int} (h:validF n d=true):nodeV (numE n d)=0:=by
 have h1:shapedB (numE n d)=true:=by simp[shapedB,numE,Ex.kind,Ex.fn,Ex.kids,Ex.num,Ex.den,Ex.window,Ex.offset,Ex.name,Ex.ms,Ex.k,Ex.bys,h];rfl
 have h2:namedB (numE n d)=true:=by simp[namedB,numE,Ex.kind,Ex.ms,Ex.bys,bysB]
 have h3:withinB (numE n d)=true:=by simp[withinB,numE,Ex.kind,Ex.k]
 unfold nodeV;rw[h1,h2,h3];rfl
theorem num_good {n d:Int} (h:validF n d=true):GoodT 1 1 (numE n d):=by
 refine⟨Nat.le_refl _,Nat.le_refl _,AllE_iff.2 ⟨⟨⟨?_,txt_num n d⟩,num_node h⟩,fun k hk=>nomatch hk⟩⟩;have z0:I64 0:=zero64.1;have hv:=valid_nums h;exact⟨z0,z0,z0,z0,z0,by unfold I64;show _≤n∧n≤_;omega,by unfold I64;show _≤d∧d≤_;omega⟩
theorem bin_node {f:Int} (h:0≤f∧f≤3) (a b:Ex):nodeV (binE f a b)=0:=by
 have h1:shapedB (binE f a b)=true:=by simp[shapedB,binE,Ex.kind,Ex.fn,Ex.kids,Ex.num,Ex.den,Ex.window,Ex.offset,Ex.name,Ex.ms,Ex.k,Ex.bys,h];rfl
 have h2:namedB (binE f a b)=true:=by simp[namedB,binE,Ex.kind,Ex.ms,Ex.bys,bysB]
 have h3:withinB (binE f a b)=true:=by simp[withinB,binE,Ex.kind,Ex.k]
 unfold nodeV;rw[h1,h2,h3];rfl
theorem txt_empty:Txt ⟨#[]⟩:=⟨fun i h=>absurd h (by show ¬i<0;omega),by show 0≤1000;omega⟩
theorem bin_good {f:Int} (h:0≤f∧f≤3) {a b:Ex} {N1 D1 N2 D2:Nat} (ha:GoodT N1 D1 a) (hb:GoodT N2 D2 b):GoodT (1+N1+N2) (1+max D1 D2) (binE f a b):=by
 refine⟨?_,?_,AllE_iff.2 ⟨⟨⟨?_,txt_empty,(fun m hm=>nomatch hm),(fun m hm=>nomatch hm),Nat.zero_le _,Nat.zero_le _⟩,bin_node h a b⟩,fun k hk=>?_⟩⟩
 ·show 1+(nodesE a+(nodesE b+0))≤_;have:=ha.1;have:=hb.1;omega
 ·show max (depthE a) (max (depthE b) 0)+1≤_;have:=ha.2.1;have:=hb.2.1;omega
 ·have z0:I64 0:=zero64.1;exact⟨by unfold I64;show _≤(3:Int)∧(3:Int)≤_;omega,by unfold I64;show _≤f∧f≤_;omega,z0,z0,z0,z0,z0⟩
 rcases List.mem_cons.1 hk with rfl|hk
 ·exact ha.2.2
 obtain rfl:=List.mem_singleton.1 hk;exact hb.2.2
theorem numL_rd (w:World) (Q:Nat→Prop) (x y:Int):RdEX w Q (numE x y) (numL x y):=RdEX.mk_ (e:=numE x y) (RdRX.nil _ _ _) (RdRX.nil _ _ _) (RdTX.nil _ _)
end Go.Proofs.YtcimmbhdcebehaaGreatDoor
