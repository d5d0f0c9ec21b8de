/- What the card of the law stands on: PSimp, Clone2. -/
import Derived.Test.YtcimmbhdcebehaaGreatDoorRewriteNumbersP01
import Derived.Test.YtcimmbhdcebehaaGreatDoorRewriteNumbersP17
import Derived.Deep.DeepCutAuto
import Derived.Test.YtcimmbhdcebehaaGreatDoorRewriteNumbersP07
import Derived.Test.YtcimmbhdcebehaaGreatDoorRewriteNumbersP09
import Derived.Lib.LazyBuf
set_option maxRecDepth 100000
set_option maxHeartbeats 12800000
set_option linter.unusedVariables false
set_option linter.unusedSimpArgs false
namespace Go.Proofs.YtcimmbhdcebehaaGreatDoor
open Go.RowKit Pl
theorem RdEQ.two_le {w:World} {B M M':Nat} {e:Ex} {cs:List Value} (h:RdEQ w (Two B M w.heap.size) e cs) (hM:M'≤M):RdEQ w (Two B M' w.heap.size) e cs:=
 RdEQ.keep (S:=fun _=>False) (fun b hb=>⟨hb.2,fun h=>h,by rcases hb.1 with h1|h1;exact .inl h1;exact .inr (by omega),hb.2⟩) (Grew.refl w) e cs h
theorem infoR1:(Tryz.prog.info? 103).map (·.size)=some 1:=by kernel_rfl
theorem infoA6:(Tryz.prog.info? 104).map (·.size)=some 6:=by kernel_rfl
theorem psimp_any:∀(k:Nat) (e:Ex),nodesE e≤k→k≤1000000→AllE FoldOk e→∀(w:World) (B0:Nat) (cs:List Value),B0≤w.heap.size→RdE w B0 e cs→
  Calls Tryz.prog 33 #[.agg cs.toArray,.int .i64 1] w (TreePost w B0 (foldR e))
 |0,e,h,_,_,_,_,_,_,_=>absurd (nodes_pos e) (by omega)
 |k+1,e,hk,hk2,hok,w,B0,cs,hB0,hr=>by
  obtain⟨vm,vb,vk,rfl,hm,hy,hT⟩:=hr.open_;obtain⟨Am,nm,km,rfl⟩:∃A n c,vm= .slice A n c:=by obtain⟨A,c,h, -⟩:=hm;exact⟨A,_,c,h⟩
  obtain⟨Ab,nb,kb,rfl⟩:∃A n c,vb= .slice A n c:=by obtain⟨A,c,h, -⟩:=hy;exact⟨A,_,c,h⟩
  obtain⟨A,n,c,rfl,hn, -⟩:=hT.slice;have hne:=nodes_eq e;have hkl:=kids_len_le e.kids;have HIH:=Lib.hid (fun(e':Ex) (w':World) (cs:List Value) (h0:B0≤w'.heap.size) (h1:e'∈e.kids) (h2:RdE w' B0 e' cs)=>psimp_any k e' (by have:=nodesKs_mem h1;omega) (by omega) (hok.kid h1) w' B0 cs h0 h2);have HT:=Lib.hid hT;have HN:=Lib.hid hn;have HMY:=Lib.hid (And.intro hm hy);have HOK:=Lib.hid hok;have HB0:=Lib.hid hB0;have hnb:n≤1000000:=by omega
  obtain⟨hb1,hb2,hG⟩:=boxes2 w 34 34 (cells11 e (.slice Am nm km) (.slice Ab nb kb) (.slice A n c)).toArray (numL 0 0).toArray;have hs2:((w.alloc (.cells (cells11 e (.slice Am nm km) (.slice Ab nb kb) (.slice A n c)).toArray 34)).alloc (.cells (numL 0 0).toArray 34)).heap.size=w.heap.size+2:=by simp
  clear hr hm hy hT hn hne hkl hk hk2 hok hB0;go_enter Tryz.func33,Tryz.ntmps33;go_upto_region 1 with fail;change Code.wp _ _ _ _ ((w.alloc (.cells (cells11 e (.slice Am nm km) (.slice Ab nb kb) (.slice A n c)).toArray 34)).alloc (.cells (numL 0 0).toArray 34));generalize (w.alloc (.cells (cells11 e (.slice Am nm km) (.slice Ab nb kb) (.slice A n c)).toArray 34)).alloc (.cells (numL 0 0).toArray 34)=w1 at*;have HS:=Lib.hid hs2;clear hs2;go_upto_region 2 with(first|((with_reducible refine at_store 104 (.tmp 5) (.tmp 19) rfl ?_);refine stN 104 (.tmp 5) (.tmp 19) (w1.heap.size) [.func (.func 55) #[] #[],.func (.func 56) #[] #[],.func (.func 57) #[] #[],.func (.func 58) #[] #[],.func (.func 59) #[] #[],.func (.func 60) #[] #[]] [.nilFunc,.nilFunc,.nilFunc,.nilFunc,.nilFunc,.nilFunc] 104 infoA6 rfl (by intro v hv;simp at hv;rcases hv with rfl|rfl|rfl|rfl|rfl|rfl<;>rfl) rfl rfl rfl rfl (Box.new w1 104 _) ?_;intro w2 hb5 k5 d5;have g2:Grew w1 w2:=Keeps.then_ ((Grew.refl w1).alloc _) k5 (fun i hi e=>by omega)));have c10:w2.cell? ⟨w.heap.size,10,none⟩=some (.slice A n c):=(hb1.grew g2).cell 10;go_upto_region 3 with(first|((with_reducible refine at_make 32 (.const (.int .i64 0)) (.tmp 22) rfl ?_);refine make_X rfl (.const (.int .i64 0)) (.tmp 22) rfl n rfl rfl hnb ?_;intro w3 hM3 g3));have HB:=Lib.hid (And.intro (hb1.grew (g2.trans g3)) (And.intro (hb2.grew (g2.trans g3)) (And.intro (hb5.grew g3) (hG.trans (g2.trans g3)))));have HM3:=Lib.hid hM3;have HSZ:=Lib.hid (show w.heap.size+2≤w1.heap.size∧w1.heap.size<w2.heap.size∧w2.heap.size≤w3.heap.size from⟨by have:=HS.out;omega,hb5.lt,g3.size⟩);clear hb1 hb2 hb5 hG g2 g3 hM3 c10 k5 d5;have c10:w3.cell? ⟨w.heap.size,10,none⟩=some (.slice A n c):=HB.out.1.cell 10;generalize w2.heap.size=M at*;go_wp2_with fail;go_loopw [6,8,27] (fun s _ i wr=>∃(j:Nat) (rows:List (List Value)),j≤n∧i= .int .i64 (j:Nat)∧MineR wr M 34 11 s rows∧Trees wr (Offs B0 M s wr.heap.size) ((e.kids.take j).map foldR) rows∧Keeps (fun i=>M≤i) w3 wr) (fun _ _ i _=>n-(intOf i).toNat)
  case atStart=>exact⟨0,[],by omega,rfl,HM3.out,by simpa using Trees.nil _ _,Keeps.refl _ _⟩
  case round=>
   obtain⟨j,rows,hj,rfl,hM,hTr,hGr⟩:=hrel;obtain⟨As,ns,ks,rfl,hns, -⟩:=hM.slice;have HM:=Lib.hid hM;have HTr:=Lib.hid hTr;have HNS:=Lib.hid hns;have HGr:=Lib.hid hGr;clear hM hTr hns hGr;by_cases hlt:j<n
   ·have hjl:j<e.kids.length:=by rw[←HN.out];exact hlt
    obtain⟨e',he'⟩:∃e',e.kids[j]? =some e':=⟨_,List.getElem?_eq_getElem hjl⟩;have hmem:e'∈e.kids:=List.mem_of_getElem? he';have hgw:Grew w wr:=Keeps.then_ HB.out.2.2.2 HGr.out fun i hi (e:M≤i)=>by have:=HSZ.out;omega
    have hTw:RdT wr B0 (.slice A n c) e.kids:=HT.out.keep HB0.out (Nat.le_refl _) hgw (fun _ _ h=>h);obtain⟨b,o,cs,rfl,hb,hrg,hre⟩:=hTw.at_ he';obtain⟨vm',vb',vk',hcs,hm',hy',hT'⟩:=hre.open_;subst hcs;obtain⟨A1,n1,c1,rfl⟩:∃A n c,vm'= .slice A n c:=by obtain⟨A,c,h, -⟩:=hm';exact⟨A,_,c,h⟩
    obtain⟨A2,n2,c2,rfl⟩:∃A n c,vb'= .slice A n c:=by obtain⟨A,c,h, -⟩:=hy';exact⟨A,_,c,h⟩
    obtain⟨A3,n3,c3,rfl, -⟩:=hT'.slice;have hsw:M≤wr.heap.size:=by have:=HGr.out.size;have:=HSZ.out;omega
    have HI:=Lib.hid (fun w' (g:Grew wr w')=>HIH.out e' w' _ (by have:=HB0.out;have:=HSZ.out;have:=g.size;omega) hmem (RdE.keep (by have:=HB0.out;have:=HSZ.out;omega) (Nat.le_refl _) g (fun _ _ h=>h) e' _ hre));have HE:=Lib.hid he';have HRg:=Lib.hid hrg;have HSW:=Lib.hid hsw;clear hjl he' hmem hTw hrg hre hm' hy' hT' hsw hgw;go_wp2_with(first|((with_reducible refine at_load 34 (.tmp 29) rfl ?_);refine wpList_load_mid rfl 34 (.tmp 29) rfl b (o+j*11) rfl (cells11 e' (.slice A1 n1 c1) (.slice A2 n2 c2) (.slice A3 n3 c3)) _ HRg.out Tryz.underlying34 rfl infoX ?_)|((with_reducible refine at_store 34 (.tmp 8) (.tmp 30) rfl ?_);refine stN 34 (.tmp 8) (.tmp 30) (wr.heap.size) (cells11 e' (.slice A1 n1 c1) (.slice A2 n2 c2) (.slice A3 n3 c3)) (numL 0 0) 34 infoX rfl (cells11_ones _ _ _ _ _ _ _ _ _ _) rfl rfl rfl rfl (Box.new wr 34 _) ?_;intro w5 hb5 k5 d5;have g5:Grew wr w5:=Keeps.then_ ((Grew.refl wr).alloc _) k5 (fun i hi e=>by omega))|((with_reducible refine at_load 34 (.tmp 8) rfl ?_);refine ldN 34 Tryz.underlying34 rfl (.tmp 8) (wr.heap.size) (cells11 e' (.slice A1 n1 c1) (.slice A2 n2 c2) (.slice A3 n3 c3)) 34 infoX rfl rfl rfl hb5 ?_));refine(HI.out _ g5).mono ?_;rintro e2 w6 ⟨cs3,rfl,hr3,k3⟩;obtain⟨vm3,vb3,vk3,rfl,hm3,hy3,hT3⟩:=hr3.open_;obtain⟨Am3,nm3,km3,rfl, -⟩:=hm3.slice;obtain⟨Ab3,nb3,kb3,rfl, -⟩:=hy3.slice;obtain⟨A3',n3',c3',rfl, -⟩:=hT3.slice;have HR3:=Lib.hid (RdEQ.two_le (M':=wr.heap.size) hr3 g5.size);have HK3:=Lib.hid (g5.trans k3);have hl3:=cells11_len (foldR e') (.slice Am3 nm3 km3) (.slice Ab3 nb3 kb3) (.slice A3' n3' c3');clear k3 HI hr3 hm3 hy3 hT3 g5 hb5 k5 d5;go_wp2_with(at_builtin;refine app_tree rfl (.tmp 31) (.tmp 35) rfl rfl rfl (Nat.le_refl _) HM.out HTr.out (by have:=HB0.out;have:=HSZ.out;omega) HSW.out HK3.out HR3.out (by rw[List.length_map,List.length_take];omega) ?_;intro A6 n6 c6 w7 H6);go_wp2_with fail;go_roundw
    case rel=>
     obtain⟨rows6,hM6,hT6,hG6⟩:=H6.out;have hes:(e.kids.take j).map foldR++[foldR e']=(e.kids.take (j+1)).map foldR:=by rw[List.take_add_one,HE.out];simp
     rw[hes]at hT6;exact⟨j+1,_,by omega,by go_num,hM6,hT6,Keeps.trans HGr.out hG6⟩
    case measure=>simp[intOf];omega
   obtain rfl:j=n:=by omega
   have hes:(e.kids.take j).map foldR=e.kids.map foldR:=by rw[List.take_of_length_le (by rw[←HN.out];exact Nat.le_refl _)]
   have hTr:=HTr.out;have hM:=HM.out;rw[hes]at hTr;have hm1:=hM.lt;have hTQ:RdTQ wr (Two B0 M wr.heap.size) (.slice As ns ks) (e.kids.map foldR):=hM.treesQ hTr.1 (fun b hb=>⟨.inr (hm1 b hb).1,(hm1 b hb).2⟩) fun i e' cs h1 h2=>RdEQ.keep (S:=fun _=>False) (fun b hb=>⟨hb.2.1,fun h=>h,hb.1,hb.2.1⟩) (Grew.refl wr) e' cs (hTr.2 i e' cs h1 h2)
   have hsz:=HSZ.out;have hbr:=HB.out.1.keep HGr.out (by omega);have hb2:=HB.out.2.1.keep HGr.out (by omega);have hb5:=HB.out.2.2.1.keep HGr.out (by omega);have hgw:Grew w wr:=Keeps.then_ HB.out.2.2.2 HGr.out fun i hi (e:M≤i)=>by omega
   have f10:=hbr.frozen 10;have hb4:Box (wr.setCell ⟨w.heap.size,10,none⟩ (.slice As ns ks)) w.heap.size 34 ((cells11 e (.slice Am nm km) (.slice Ab nb kb) (.slice As ns ks))).toArray:=hbr.set_ 10 (.slice As ns ks);have k4:Keeps (fun i=>i=w.heap.size) wr (wr.setCell ⟨w.heap.size,10,none⟩ (.slice As ns ks)):=Keeps.setCell (S:=fun i=>i=w.heap.size) (p:=⟨w.heap.size,10,none⟩) (Keeps.refl _ wr) (.inl rfl) _;have hsz4:(wr.setCell ⟨w.heap.size,10,none⟩ (.slice As ns ks)).heap.size=wr.heap.size:=by simp
   have HNs:=Lib.hid (show ns=e.kids.length by have:=hTr.1;rw[List.length_map]at this;rw[HNS.out,this]);have HTQ:=Lib.hid hTQ;have HE4:=Lib.hid (And.intro hb4 (And.intro (hb2.far (p:=⟨w.heap.size,10,none⟩) (by simp) (.slice As ns ks)) (And.intro (hb5.far (p:=⟨w.heap.size,10,none⟩) (by simp;omega) (.slice As ns ks)) (And.intro k4 (And.intro hsz4 (And.intro hgw HGr.out.size))))));have c10':wr.cell? ⟨w.heap.size,10,none⟩=some (.slice A j c):=hbr.cell 10;clear hTQ hbr hb2 hb5 hgw hb4 k4 hsz4 hM hTr HM HTr HNS hes hm1 hsz c10;go_upto_region 9 with fail;generalize wr.setCell ⟨w.heap.size,10,none⟩ (.slice As ns ks)=w4 at*;obtain⟨hb4,hb2,hb5,k4,hsz4,hgw,hw1⟩:=HE4.out;have hsz:=HSZ.out;have hB0:=HB0.out;have hTQ4:RdTQ w4 (Two B0 M wr.heap.size) (.slice As ns ks) (e.kids.map foldR):=HTQ.out.keep (S:=fun i=>i=w.heap.size) (fun b hb=>⟨hb.2,fun h=>by rcases hb.1 with h1|h1<;>omega,hb⟩) k4;have hgw4:Grew w w4:=Keeps.then_ hgw k4 fun i hi e=>by omega
   have hMY4:RdR w4 B0 3 (.slice Am nm km) (e.ms.map mcells)∧RdR w4 B0 1 (.slice Ab nb kb) (e.bys.map fun s=>[Value.string s]):=⟨HMY.out.1.keep hB0 (Nat.le_refl _) hgw4 (fun _ _ h=>h),HMY.out.2.keep hB0 (Nat.le_refl _) hgw4 (fun _ _ h=>h)⟩;have hE4:∀w',Grew w4 w'→RdEQ w' (Two B0 M w'.heap.size) (e.withKids (e.kids.map foldR)) (cells11 e (.slice Am nm km) (.slice Ab nb kb) (.slice As ns ks)):=fun w' g=>by
    have hsz:=g.size;have h1:=RdEQ.mk_ (e:=e.withKids (e.kids.map foldR)) (Q:=Two B0 M w'.heap.size) (w:=w') (vm:= .slice Am nm km) (vb:= .slice Ab nb kb) (vk:= .slice As ns ks) (by rw[wk_ms];exact(hMY4.1.keep (by omega) (Nat.le_refl _) g (fun _ _ h=>h)).toQ fun b hb=>⟨.inl hb,by omega⟩) (by rw[wk_bys];exact(hMY4.2.keep (by omega) (Nat.le_refl _) g (fun _ _ h=>h)).toQ fun b hb=>⟨.inl hb,by omega⟩) (by rw[wk_kids];exact hTQ4.keep (fun b hb=>⟨by have:=hb.2;omega,fun h=>h,hb.1,by have:=hb.2;omega⟩) g);rwa[cells11_wk]at h1
   have HRES:=Lib.hid hE4;have hM2:w.heap.size+2≤M:=by omega
   have HFIN:=Lib.hid (fun(w5 w8:World) (e5:Ex) (cs:List Value) (k8:Keeps (fun i=>i=w.heap.size+1) w5 w8) (h:RdEQ w5 (Two B0 M w5.heap.size) e5 cs)=>two_final k8 hB0 hM2 h);have c0:w4.cell? ⟨w.heap.size,0,none⟩=some (.int .i64 e.kind):=hb4.cell 0;by_cases h3:e.kind=3
   ·have t1:(e.kind==3)=true:=by simpa using h3
    have hp:=HOK.out.top.2 h3;have h64:=HOK.out.top.1;obtain⟨ea,eb,hks⟩:∃ea eb,e.kids=[ea,eb]:=by
     rcases hq:e.kids with _|⟨a,_|⟨b,_|⟨d,l⟩⟩⟩<;>rw[hq]at hp<;>simp at hp;exact⟨a,b,rfl⟩
    have hk4:(e.withKids (e.kids.map foldR)).kids=[foldR ea,foldR eb]:=by rw[wk_kids,hks];rfl
    have h34:(e.withKids (e.kids.map foldR)).kind=3:=by rw[wk_kind];exact h3
    have h64a:Num64 (foldR ea):=foldR_64 (HOK.out.kid (by rw[hks];simp)).top.1;have h64b:Num64 (foldR eb):=foldR_64 (HOK.out.kid (by rw[hks];simp)).top.1;obtain rfl:ns=2:=by rw[HNs.out,hks];rfl
    have hks2:e.kids.map foldR=[foldR ea,foldR eb]:=by rw[hks];rfl
    rw[hks2]at hTQ4;obtain⟨b,o,csa,rfl,hbq,hra,hea⟩:=hTQ4.at_ (j:=0) (e:=foldR ea) rfl;obtain⟨b',o',csb,hbo, -,hrb,heb⟩:=hTQ4.at_ (j:=1) (e:=foldR eb) rfl;simp only[Option.some.injEq,Addr.mk.injEq,and_true]at hbo;obtain⟨rfl,rfl⟩:=hbo;obtain⟨va1,va2,va3,rfl,hq1,hq2,hq3⟩:=hea.open_;obtain⟨Aa1,na1,ca1,rfl, -⟩:=hq1.slice;obtain⟨Aa2,na2,ca2,rfl, -⟩:=hq2.slice;obtain⟨Aa3,na3,ca3,rfl, -⟩:=hq3.slice;obtain⟨ve1,ve2,ve3,rfl,hq4,hq5,hq6⟩:=heb.open_;obtain⟨Ab1,nb1,cb1,rfl, -⟩:=hq4.slice;obtain⟨Ab2,nb2,cb2,rfl, -⟩:=hq5.slice;obtain⟨Ab3,nb3,cb3,rfl, -⟩:=hq6.slice;have hrows:∀w',Grew w4 w'→w'.rangeAt b o (cells11 (foldR ea) (.slice Aa1 na1 ca1) (.slice Aa2 na2 ca2) (.slice Aa3 na3 ca3))∧w'.rangeAt b (o+11) (cells11 (foldR eb) (.slice Ab1 nb1 cb1) (.slice Ab2 nb2 cb2) (.slice Ab3 nb3 cb3)):=fun w' g=>⟨by have:=rangeAt_keep hra (by have:=hbq.2;omega) g (fun h=>h);simpa using this,by have:=rangeAt_keep hrb (by have:=hbq.2;omega) g (fun h=>h);simpa using this⟩
    obtain⟨x,y,ok,hF,hXt,hXf⟩:∃(x y:Int) (ok:Bool),(∀w',Calls Tryz.prog 55 #[.int .i64 e.fn,.agg (cells11 (foldR ea) (.slice Aa1 na1 ca1) (.slice Aa2 na2 ca2) (.slice Aa3 na3 ca3)).toArray,.agg (cells11 (foldR eb) (.slice Ab1 nb1 cb1) (.slice Ab2 nb2 cb2) (.slice Ab3 nb3 cb3)).toArray] w' fun e' w''=>e'= .returned (.tuple #[.agg (numL x y).toArray,.bool ok])∧Grew w' w'')∧(ok=true→foldR e=numE x y)∧(ok=false→foldR e=e.withKids (e.kids.map foldR)):=by
     by_cases hz:(foldR ea).kind=0∧(foldR eb).kind=0
     ·obtain⟨⟨x,y,er⟩,hap⟩:∃r,applyF e.fn (foldR ea).num (foldR ea).den (foldR eb).num (foldR eb).den=r:=⟨_,rfl⟩;refine⟨x,y,er==0,fun w'=>pfold_two e.fn (foldR ea) (foldR eb) _ _ _ _ _ _ w' hz.1 hz.2 ⟨hp.2.1,hp.2.2⟩ h64a.2.2.2.2.2.1 h64a.2.2.2.2.2.2 h64b.2.2.2.2.2.1 h64b.2.2.2.2.2.2 x y er hap,fun hok=>?_,fun hok=>?_⟩
      ·obtain rfl:er=0:=by simpa using hok
       rw[foldR_eq];exact foldN_two hk4 h34 hz.1 hz.2 (by rw[wk_fn];exact hap)
      rw[foldR_eq];exact foldN_bad (x:=x) (y:=y) (er:=er) hk4 (by rw[wk_fn];exact hap) (by simpa using hok)
     refine⟨0,0,false,fun w'=>pfold_not e.fn (foldR ea) (foldR eb) _ _ _ _ _ _ w' hz,(fun h=>nomatch h),fun _=>?_⟩;rw[foldR_eq];exact foldN_not fun _=>⟨_,_,hk4,hz⟩
    have HAP:=Lib.hid hF;have HXT:=Lib.hid hXt;have HXF:=Lib.hid hXf;have HROW:=Lib.hid hrows;have hb5c:∀w',Grew w4 w'→Box w' w1.heap.size 104 ([.func (.func 55) #[] #[],.func (.func 56) #[] #[],.func (.func 57) #[] #[],.func (.func 58) #[] #[],.func (.func 59) #[] #[],.func (.func 60) #[] #[]]:List Value).toArray:=fun w' g=>hb5.grew g
    have HB5:=Lib.hid hb5c;have HB24:=Lib.hid (And.intro hb4 (And.intro hb2 hgw4));clear hE4 hTQ4 hMY4 h3 hB0 hsz4 hgw k4 hF hXt hXf hp h64 h64a h64b hk4 h34 hks hks2 hra hrb hea heb hq1 hq2 hq3 hq4 hq5 hq6 hbq hrows hb5c hsz hw1 hM2 hb5 hb4 hb2 hgw4;have HFN:=Lib.hid (show ∀w',Grew w4 w'→w'.cell? ⟨w.heap.size,1,none⟩=some (.int .i64 e.fn)from fun w' g=>(HB24.out.1.grew g).cell 1);generalize e.fn=fnv at*;go_wp2_with fail;go_loopw [10,11,12,46] (fun _ _ _ i wr=>∃m:Int,i= .int .i64 m∧(m=0∨m=1∧ok=false)∧Grew w4 wr) (fun _ _ _ i _=>1-(intOf i).toNat)
    case atStart=>exact⟨0,rfl,.inl rfl,Grew.refl _⟩
    case round=>
     obtain⟨m,rfl,hm,hg⟩:=hrel;have HGX:=Lib.hid hg;have r0:wr.rangeAt w1.heap.size 0 [.func (.func 55) #[] #[]]:=(HB5.out wr hg).rangeN 0 [.func (.func 55) #[] #[]] rfl;have r0c:wr.cell? ⟨w1.heap.size,0,none⟩=some (.func (.func 55) #[] #[]):=(HB5.out wr hg).cell 0;have b4:=HB24.out.1.grew hg;have b2:=HB24.out.2.1.grew hg;rcases hm with rfl|⟨rfl,rfl⟩
     ·clear hg;go_upto_region 13 with(first|((with_reducible refine at_store 103 (.tmp 10) (.tmp 49) rfl ?_);refine stN 103 (.tmp 10) (.tmp 49) (wr.heap.size) [.func (.func 55) #[] #[]] [.nilFunc] 103 infoR1 rfl (by intro v hv;simp at hv;subst hv;rfl) rfl rfl rfl rfl (Box.new wr 103 _) ?_;intro w7 hb10 k10 d10;have g7:Grew wr w7:=Keeps.then_ ((Grew.refl wr).alloc _) k10 (fun i hi e=>by omega)));have h7:Grew w4 w7:=HGX.out.trans g7;have HRW:=Lib.hid (show ∀w',Grew w7.drew w'→w'.cell? ⟨wr.heap.size,0,none⟩=some (.func (.func 55) #[] #[])∧w'.cell? ⟨w.heap.size,1,none⟩=some (.int .i64 fnv)∧w'.rangeAt b o (cells11 (foldR ea) (.slice Aa1 na1 ca1) (.slice Aa2 na2 ca2) (.slice Aa3 na3 ca3))∧w'.rangeAt b (o+11) (cells11 (foldR eb) (.slice Ab1 nb1 cb1) (.slice Ab2 nb2 cb2) (.slice Ab3 nb3 cb3))from fun w' g=>by
       have gg:Grew w7 w':=(Keeps.drew (Grew.refl w7)).trans g;exact⟨(hb10.grew gg).cell 0,HFN.out w' (h7.trans gg),HROW.out w' (h7.trans gg)⟩)
      have b47:=b4.grew g7;have b27:=b2.grew g7;have HB7:=Lib.hid (And.intro b47 (And.intro b27 h7));clear b4 b2 b47 b27 h7 g7 hb10 k10 d10 r0 r0c;generalize wr.heap.size=z10 at*;refine region_store (by kernel_rfl) 15 14 11 [13,16] [.pointer (some ⟨z10,0,none⟩),.func (.func 55) #[] #[],.pointer (some ⟨w.heap.size,1,none⟩),.int .i64 fnv,.slice (some ⟨b,o,none⟩) 2 ks,.pointer (some ⟨b,o,none⟩),.agg (cells11 (foldR ea) (.slice Aa1 na1 ca1) (.slice Aa2 na2 ca2) (.slice Aa3 na3 ca3)).toArray,.slice (some ⟨b,o,none⟩) 2 ks,.pointer (some ⟨b,o+11,none⟩),.agg (cells11 (foldR eb) (.slice Ab1 nb1 cb1) (.slice Ab2 nb2 cb2) (.slice Ab3 nb3 cb3)).toArray,.tuple #[.agg (numL x y).toArray,.bool ok],.tuple #[.agg (numL x y).toArray,.bool ok],.agg (numL x y).toArray,.bool ok,undef,undef,.bool ok] 34 (numL 0 0) _ (by kernel_rfl) (by kernel_rfl) (by decide) (by decide) (by decide) (of_decide_eq_true (by kernel_rfl)) rfl (of_decide_eq_true (by kernel_rfl)) (by kernel_rfl) ?hH ?hal (numL x y) (.tmp 11) (.tmp 62) 34 _ rfl rfl rfl (by simp[Op.operands]) (by simp[Op.operands]) infoX rfl (numL_ones _ _) (fun z=>by kernel_rfl) (fun z=>by kernel_rfl) ?hT
      case hH=>
       simp only[List.toList_toArray,List.take_succ_cons,List.take_zero,putAll,Act.put,List.setIfInBounds_toArray,List.set_cons_zero,List.set_cons_succ];refine headS_grow (by decide) (fun z w' hg=>?_) ?_
       ·go_simp;exact Grew.refl _
       refine headS_grow (by decide) (fun z w' hg=>?_) ?_
       ·obtain⟨g1,g2,g3,g4⟩:=HRW.out _ hg;go_simp;exact Grew.refl _
       refine headS_grow (by decide) (fun z w' hg=>?_) ?_
       ·go_simp;exact Grew.refl _
       refine headS_grow (by decide) (fun z w' hg=>?_) ?_
       ·obtain⟨g1,g2,g3,g4⟩:=HRW.out _ hg;go_simp;exact Grew.refl _
       refine headS_grow (by decide) (fun z w' hg=>?_) ?_
       ·go_simp;exact Grew.refl _
       refine headS_grow (by decide) (fun z w' hg=>?_) ?_
       ·go_simp;exact Grew.refl _
       refine headS_grow (by decide) (fun z w' hg=>?_) ?_
       ·obtain⟨g1,g2,g3,g4⟩:=HRW.out _ hg;refine wp_load_mid 34 (.tmp 56) rfl b (o) rfl (cells11 (foldR ea) (.slice Aa1 na1 ca1) (.slice Aa2 na2 ca2) (.slice Aa3 na3 ca3)) _ g3 Tryz.underlying34 rfl infoX ?_;exact⟨rfl,Grew.refl _⟩
       refine headS_grow (by decide) (fun z w' hg=>?_) ?_
       ·go_simp;exact Grew.refl _
       refine headS_grow (by decide) (fun z w' hg=>?_) ?_
       ·go_simp;exact Grew.refl _
       refine headS_grow (by decide) (fun z w' hg=>?_) ?_
       ·obtain⟨g1,g2,g3,g4⟩:=HRW.out _ hg;refine wp_load_mid 34 (.tmp 59) rfl b (o+11) rfl (cells11 (foldR eb) (.slice Ab1 nb1 cb1) (.slice Ab2 nb2 cb2) (.slice Ab3 nb3 cb3)) _ g4 Tryz.underlying34 rfl infoX ?_;exact⟨rfl,Grew.refl _⟩
       refine headS_grow (by decide) (fun z w' hg=>?_) ?_
       ·go_simp;(with_reducible refine(HAP.out _).mono ?_);rintro e wq ⟨rfl,kq⟩;exact⟨rfl,kq⟩
       refine headS_grow (by decide) (fun z w' hg=>?_) ?_
       ·go_simp;exact Grew.refl _
       refine headS_grow (by decide) (fun z w' hg=>?_) ?_
       ·go_simp;exact Grew.refl _
       refine headS_pure (by decide) (fun z w'=>?_) ?_
       ·go_simp
       refine headS_alloc (by decide) ?_;refine headS_store (by decide) ?_;refine headS_pure (by decide) (fun z w'=>?_) ?_
       ·go_simp
       exact headS_nil
      case hal=>
       intro o1 ho a1 w8 K hK;obtain rfl:=Option.some.inj ho;go_simp;exact hK _ rfl
      case hT=>
       intro z wz hz hbz hgz;dsimp only;simp only[List.toList_toArray,List.take_succ_cons,List.take_zero,putAll,Act.put,List.setIfInBounds_toArray,List.set_cons_zero,List.set_cons_succ];have b2z:=HB7.out.2.1.grew hgz;have HGZ:=Lib.hid (HB7.out.2.2.trans hgz);clear HRW hz hgz;rcases ok with _|_
       ·go_wp2_with fail;go_roundw
        case rel=>exact⟨1,rfl,.inr ⟨rfl,trivial⟩,HGZ.out⟩
        case measure=>simp[intOf]
       have HF:=Lib.hid (HXT.out rfl);go_wp2_with(first|((with_reducible refine at_load 34 (.tmp 11) rfl ?_);refine ldN 34 Tryz.underlying34 rfl (.tmp 11) (z) (numL x y) 34 infoX rfl rfl rfl hbz ?_)|((with_reducible refine at_store 34 (.tmp 4) (.tmp 65) rfl ?_);refine stN 34 (.tmp 4) (.tmp 65) (w.heap.size+1) (numL x y) (numL 0 0) 34 infoX rfl (numL_ones _ _) rfl rfl rfl rfl b2z ?_;intro w8 hb8 k8 d8));refine bodyPost_ret (results_one rfl rfl infoX Tryz.underlying34 rfl hb8) rfl ?_;refine⟨numL x y,rfl,?_,Keeps.then_ (HB24.out.2.2.trans HGZ.out) k8 (fun i hi e=>by omega)⟩;rw[HF.out];exact RdEQ.mk_ (e:=numE x y) (RdRQ.nil _ _ _) (RdRQ.nil _ _ _) (RdTQ.nil _ _)
     have HF:=Lib.hid (HXF.out rfl);clear hg r0 r0c;go_wp2_with(first|((with_reducible refine at_load 34 (.tmp 2) rfl ?_);refine ldN 34 Tryz.underlying34 rfl (.tmp 2) (w.heap.size) (cells11 e (.slice Am nm km) (.slice Ab nb kb) (.slice (some ⟨b,o,none⟩) 2 ks)) 34 infoX rfl rfl rfl b4 ?_)|((with_reducible refine at_store 34 (.tmp 4) (.tmp 67) rfl ?_);refine stN 34 (.tmp 4) (.tmp 67) (w.heap.size+1) (cells11 e (.slice Am nm km) (.slice Ab nb kb) (.slice (some ⟨b,o,none⟩) 2 ks)) (numL 0 0) 34 infoX rfl (cells11_ones _ _ _ _ _ _ _ _ _ _) rfl rfl rfl rfl b2 ?_;intro w8 hb8 k8 d8));refine bodyPost_ret (results_one rfl rfl infoX Tryz.underlying34 rfl hb8) rfl ?_;refine⟨(cells11 e (.slice Am nm km) (.slice Ab nb kb) (.slice (some ⟨b,o,none⟩) 2 ks)),rfl,?_,Keeps.then_ (HB24.out.2.2.trans HGX.out) k8 (fun i hi e=>by omega)⟩;rw[HF.out];exact HFIN.out wr w8 _ _ k8 (HRES.out wr HGX.out)
   have t1:(e.kind==3)=false:=by simpa using h3
   have hfin:foldR e=e.withKids (e.kids.map foldR):=by rw[foldR_eq];exact foldN_not fun h=>absurd (by rw[wk_kind]at h;exact h) h3
   have HF:=Lib.hid hfin;clear hE4 hTQ4 hMY4 hfin h3 hB0 hsz4 hgw k4 hsz hw1 hM2;go_wp2_with(first|((with_reducible refine at_load 34 (.tmp 2) rfl ?_);refine ldN 34 Tryz.underlying34 rfl (.tmp 2) (w.heap.size) (cells11 e (.slice Am nm km) (.slice Ab nb kb) (.slice As ns ks)) 34 infoX rfl rfl rfl hb4 ?_)|((with_reducible refine at_store 34 (.tmp 4) (.tmp 67) rfl ?_);refine stN 34 (.tmp 4) (.tmp 67) (w.heap.size+1) (cells11 e (.slice Am nm km) (.slice Ab nb kb) (.slice As ns ks)) (numL 0 0) 34 infoX rfl (cells11_ones _ _ _ _ _ _ _ _ _ _) rfl rfl rfl rfl hb2 ?_;intro w8 hb8 k8 d8));refine bodyPost_ret (results_one rfl rfl infoX Tryz.underlying34 rfl hb8) rfl ?_;refine⟨(cells11 e (.slice Am nm km) (.slice Ab nb kb) (.slice As ns ks)),rfl,?_,Keeps.then_ hgw4 k8 (fun i hi e=>by omega)⟩;rw[HF.out];exact HFIN.out w4 w8 _ _ k8 (HRES.out w4 (Grew.refl _))
def ClonePost (w:World) (sz:Nat) (rows:List (List Value)) (e:Ending) (w':World):Prop:=∃v,e= .returned v∧RdRQ w' (fun b=>w.heap.size≤b∧b<w'.heap.size) sz v rows∧Grew w w'
theorem app_manyR {P:Program} {t e:TypeId} {sz bytes:Nat} {z:Value} {w:World} {base:Nat} {v sv:Value} {rows news:List (List Value)} {ops:Array Oper} {rest:List Oper} {o:Oper} {a:Act} {Q:Exit→Act→World→Prop} (T:SlR P t e sz bytes z) (hgd:o.guard=none) (s x:Operand)
  (ho:o.op= .call { callee:= .builtin .append,args:=#[s,x],argTypes:=#[t,t] })
  (hs:a.eval s=v) (hown:MineR w base e sz v rows) (hx:a.eval x=sv) {B:Nat} (hr:RdR w B sz sv news) (hev:Even sz news) (h1:∀r∈news,∀u∈r,u.oneCell'=true)
  (hn:rows.length+news.length≤1099511627) (hbase:base≤w.heap.size)
  (h:∀v' w',MineR w' base e sz v' (rows++news)→Keeps (fun i=>v.ownBlock=some i) w w'→wpList P ops Q rest (a.put o.dst v') w'):wpList P ops Q (o::rest) a w:=by
 refine wpList_plain hgd fun K hK=>?_
 obtain⟨v',w',hrun,h2,h3,h4⟩:=run_appR (P:=P) T o.type hown hr hev h1 hn hbase;unfold Oper.wp execOp;simp only[ho,resolve,invoke,builtin,Sem.run_bind,Sem.run_pure,Result.andThen_ok,List.map_toArray,List.map_cons,List.map_nil,hs,hx,hrun];exact hK _ _ (h v' w' h2 h3)
theorem slM:SlR Tryz.prog 30 65 3 40 (.agg #[.string ⟨#[]⟩,.int .i64 0,.string ⟨#[]⟩]):=⟨Tryz.underlying30,by kernel_rfl,rfl,by decide,by decide⟩
theorem cloneM_any (v:Value) (rows:List (List Value)) (w:World) (h:RdR w w.heap.size 3 v rows) (hev:Even 3 rows) (h1:∀r∈rows,∀u∈r,u.oneCell'=true) (hn:rows.length≤1000000):Calls Tryz.prog 53 #[v] w (ClonePost w 3 rows):=by
 obtain⟨A,c,rfl,hc,hx⟩:=h;obtain⟨n,hnn⟩:∃n,rows.length=n:=⟨_,rfl⟩;have hrd:∀w',Grew w w'→RdR w' w'.heap.size 3 (.slice A rows.length c) rows:=fun w' g=>RdR.keep (B:=w.heap.size) ⟨A,c,rfl,hc,hx⟩ (Nat.le_refl _) g.size g (fun _ _ h=>h)
 rw[hnn]at hc hx hrd;have HN:=Lib.hid hnn;have HX:=Lib.hid hx;have HRD:=Lib.hid hrd;have HEV:=Lib.hid (And.intro hev h1);clear hx hev h1 hrd;rw[hnn];clear hnn;go_enter Tryz.func53,Tryz.ntmps53;have heq:=fun w=>run_eql_slice_nil (P:=Tryz.prog) w 30 65 A n c Tryz.underlying30
 rcases A with _|ad
 ·have HR0:=Lib.hid (show rows=[]from by
   rcases hr:rows with _|⟨r,rs⟩
   ·rfl
   obtain⟨b,o,h, -⟩:=HX.out (by have:=HN.out;rw[hr]at this;simp at this;omega);cases h)
  go_wp2_with fail;go_ret;refine⟨_,rfl,?_,Grew.refl _⟩;rw[HR0.out];exact RdRQ.nil _ _ _
 go_wp2_with(at_builtin;refine app_manyR slM rfl (.tmp 5) (.tmp 6) rfl rfl (MineR.made (base:=w.heap.size) (c:=0) #[] rfl (by decide) (Nat.le_refl _)) rfl (HRD.out _ ((Grew.refl w).alloc _)) HEV.out.1 HEV.out.2 (by have:=HN.out;simp;omega) (by simp) ?_;intro v' w3 hM k3;have HM:=Lib.hid hM;have HK:=Lib.hid k3;clear hM k3);go_ret;refine⟨_,rfl,(HM.out.own).keep (S:=fun _=>False) (fun b hb=>⟨(HM.out.lt b hb).2,fun h=>h,(HM.out.lt b hb).1,(HM.out.lt b hb).2⟩) (Grew.refl _),Keeps.then_ ((Grew.refl w).alloc _) HK.out fun i hi e=>by
  have h:some w.heap.size=some i:=e;injection h with h;omega⟩
theorem slS:SlR Tryz.prog 31 9 1 16 (.string ⟨#[]⟩):=⟨Tryz.underlying31,by kernel_rfl,rfl,by decide,by decide⟩
theorem cloneS_any (v:Value) (rows:List (List Value)) (w:World) (h:RdR w w.heap.size 1 v rows) (hev:Even 1 rows) (h1:∀r∈rows,∀u∈r,u.oneCell'=true) (hn:rows.length≤1000000):Calls Tryz.prog 54 #[v] w (ClonePost w 1 rows):=by
 obtain⟨A,c,rfl,hc,hx⟩:=h;obtain⟨n,hnn⟩:∃n,rows.length=n:=⟨_,rfl⟩;have hrd:∀w',Grew w w'→RdR w' w'.heap.size 1 (.slice A rows.length c) rows:=fun w' g=>RdR.keep (B:=w.heap.size) ⟨A,c,rfl,hc,hx⟩ (Nat.le_refl _) g.size g (fun _ _ h=>h)
 rw[hnn]at hc hx hrd;have HN:=Lib.hid hnn;have HX:=Lib.hid hx;have HRD:=Lib.hid hrd;have HEV:=Lib.hid (And.intro hev h1);clear hx hev h1 hrd;rw[hnn];clear hnn;go_enter Tryz.func54,Tryz.ntmps54;have heq:=fun w=>run_eql_slice_nil (P:=Tryz.prog) w 31 9 A n c Tryz.underlying31
 rcases A with _|ad
 ·have HR0:=Lib.hid (show rows=[]from by
   rcases hr:rows with _|⟨r,rs⟩
   ·rfl
   obtain⟨b,o,h, -⟩:=HX.out (by have:=HN.out;rw[hr]at this;simp at this;omega);cases h)
  go_wp2_with fail;go_ret;refine⟨_,rfl,?_,Grew.refl _⟩;rw[HR0.out];exact RdRQ.nil _ _ _
 go_wp2_with(at_builtin;refine app_manyR slS rfl (.tmp 5) (.tmp 6) rfl rfl (MineR.made (base:=w.heap.size) (c:=0) #[] rfl (by decide) (Nat.le_refl _)) rfl (HRD.out _ ((Grew.refl w).alloc _)) HEV.out.1 HEV.out.2 (by have:=HN.out;simp;omega) (by simp) ?_;intro v' w3 hM k3;have HM:=Lib.hid hM;have HK:=Lib.hid k3;clear hM k3);go_ret;refine⟨_,rfl,(HM.out.own).keep (S:=fun _=>False) (fun b hb=>⟨(HM.out.lt b hb).2,fun h=>h,(HM.out.lt b hb).1,(HM.out.lt b hb).2⟩) (Grew.refl _),Keeps.then_ ((Grew.refl w).alloc _) HK.out fun i hi e=>by
  have h:some w.heap.size=some i:=e;injection h with h;omega⟩
end Go.Proofs.YtcimmbhdcebehaaGreatDoor
