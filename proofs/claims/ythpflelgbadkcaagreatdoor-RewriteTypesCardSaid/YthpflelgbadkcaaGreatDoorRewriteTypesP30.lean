/- What the card of the law stands on: SmpB, Rwr. -/
import Derived.Test.YthpflelgbadkcaaGreatDoorRewriteTypesP01
import Derived.Test.YthpflelgbadkcaaGreatDoorRewriteTypesP29
import Derived.Test.YthpflelgbadkcaaGreatDoorRewriteTypesP07
import Derived.Deep.DeepCutAuto
set_option maxRecDepth 100000
set_option maxHeartbeats 12800000
set_option linter.unusedVariables false
set_option linter.unusedSimpArgs false
namespace Go.Proofs.YthpflelgbadkcaaGreatDoor
open Go.RowKit Pl
section
variable {P:Program} {md:Region.Mode} {ops:Array Oper} {Q:Exit→Act→World→Prop} {Gs:List (Nat×(World→Prop))}
theorem Od {i j:Nat} {oi oj:Oper} {fuel:Nat} {listed:Array Bool} {a:Act} {w:World} (hcl:Ae md ops listed) (hr:Region.ready md ops listed=[i,j]) (hi:ops[i]? =some oi) (hgi:oi.guard=none) (hj:ops[j]? =some oj) (hgj:oj.guard=none)
  (h1:∀K:Act→World→Prop,(∀a' w',B6 Gs (listed.setIfInBounds i true) w'→(Ae md ops (listed.setIfInBounds i true)→B6 Gs (listed.setIfInBounds i true) w'→BA P md ops Q Gs fuel (listed.setIfInBounds i true) a' w')→K a' w')→oi.wp P a w K Q)
  (h2:∀K:Act→World→Prop,(∀a' w',B6 Gs (listed.setIfInBounds j true) w'→(Ae md ops (listed.setIfInBounds j true)→B6 Gs (listed.setIfInBounds j true) w'→BA P md ops Q Gs fuel (listed.setIfInBounds j true) a' w')→K a' w')→oj.wp P a w K Q):BA P md ops Q Gs (fuel+1) listed a w:=by
 refine⟨(fun h0=>by rw[hr]at h0;cases h0),fun l hl=>?_⟩;have hl':=hl;rw[hr]at hl;rcases List.mem_cons.1 hl with rfl|hl
 ·unfold wpOp;simp only[hi,Region.wanted,hgi,if_true];exact .inl (h1 _ fun a' w' h1 h2=>⟨h1,h2 (hcl.set hl') h1⟩)
 obtain rfl:=VF.1 hl;unfold wpOp;simp only[hj,Region.wanted,hgj,if_true];exact .inl (h2 _ fun a' w' h1 h2=>⟨h1,h2 (hcl.set hl') h1⟩)
end
theorem Oe {m:Nat} (hm:m<6) (args:Array Value) (w:World):(callFunc (Lx m) args).run Tryz.prog w= .ok (.enter (Lx m) args) w:=by
 rcases m with _|_|_|_|_|_|m
 ·kernel_rfl
 ·kernel_rfl
 ·kernel_rfl
 ·kernel_rfl
 ·kernel_rfl
 ·kernel_rfl
 omega
theorem JM:∀(k:Nat) (e:Ex),AH e≤k→k≤1000000→Ey e→∀(w:World) (B0:Nat) (cs:List Value),DI w→EB w→B0≤w.heap.size→BU w B0 e cs→
  Calls Tryz.prog 29 #[.agg cs.toArray,.int .i64 6] w (Jq w B0 (AW e))
 |0,e,h,_,_,_,_,_,_,_,_,_=>absurd (Aj e) (by omega)
 |k+1,e,hk,hk2,hok,w,B0,cs,hwt,hot,hB0,hr=>by
  obtain⟨vm,vb,vk,rfl,hm,hy,hT⟩:=hr.open_;obtain⟨Am,nm,km,rfl⟩:∃A n c,vm= .slice A n c:=by obtain⟨A,c,h, -⟩:=hm;exact⟨A,_,c,h⟩
  obtain⟨Ab,nb,kb,rfl⟩:∃A n c,vb= .slice A n c:=by obtain⟨A,c,h, -⟩:=hy;exact⟨A,_,c,h⟩
  obtain⟨A,n,c,rfl,hn, -⟩:=hT.slice;have hne:=Az e;have hkl:=CF e.kids;have HTB:=V3 (fun w' (g:A4 w w')=>V5 (hwt.grew g) (hot.keep g (fun h=>h)));have HIH:=V3 (fun(e':Ex) (w':World) (cs:List Value) (gw:A4 w w') (h0:B0≤w'.heap.size) (h1:e'∈e.kids) (h2:BU w' B0 e' cs)=>JM k e' (by have:=AT h1;omega) (by omega) (hok.kid h1) w' B0 cs (hwt.grew gw) (hot.keep gw (fun h=>h)) h0 h2);have HT:=V3 hT;have HN:=V3 hn;have HKN:=V3 (V5 hk hk2);have HMY:=V3 (V5 hm hy);have HOK:=V3 hok;have HB0:=V3 hB0;have hnb:n≤1000000:=by omega
  obtain⟨hb1,hb2,hG⟩:=CI w 29 29 (AC e (.slice Am nm km) (.slice Ab nb kb) (.slice A n c)).toArray (AJ 0 0).toArray;have hs2:((w.alloc (.cells (AC e (.slice Am nm km) (.slice Ab nb kb) (.slice A n c)).toArray 29)).alloc (.cells (AJ 0 0).toArray 29)).heap.size=w.heap.size+2:=by simp
  clear hr hm hy hT hn hne hkl hk hk2 hok hB0 hwt hot;go_enter Tryz.func29,Tryz.ntmps29;go_upto_region 1 with fail;change Code.wp _ _ _ _ ((w.alloc (.cells (AC e (.slice Am nm km) (.slice Ab nb kb) (.slice A n c)).toArray 29)).alloc (.cells (AJ 0 0).toArray 29));generalize (w.alloc (.cells (AC e (.slice Am nm km) (.slice Ab nb kb) (.slice A n c)).toArray 29)).alloc (.cells (AJ 0 0).toArray 29)=w1 at*;have HS:=V3 hs2;clear hs2;go_upto_region 2 with(first|((with_reducible refine AG 106 (.tmp 5) (.tmp 19) rfl ?_);refine BL 106 (.tmp 5) (.tmp 19) (w1.heap.size) [.func (.func 56) #[] #[],.func (.func 57) #[] #[],.func (.func 58) #[] #[],.func (.func 59) #[] #[],.func (.func 60) #[] #[],.func (.func 61) #[] #[]] [.nilFunc,.nilFunc,.nilFunc,.nilFunc,.nilFunc,.nilFunc] 106 TJ rfl (by intro v hv;simp at hv;rcases hv with rfl|rfl|rfl|rfl|rfl|rfl<;>rfl) rfl rfl rfl rfl (VW w1 106 _) ?_;intro w2 hb5 k5 d5;have g2:A4 w1 w2:=VV ((VU w1).alloc _) k5 (fun i hi e=>by omega)));have c10:w2.cell? ⟨w.heap.size,10,none⟩=some (.slice A n c):=(hb1.grew g2).cell 10;go_upto_region 3 with(first|((with_reducible refine OO 27 (.const (.int .i64 0)) (.tmp 22) rfl ?_);refine R6 rfl (.const (.int .i64 0)) (.tmp 22) rfl n rfl rfl hnb ?_;intro w3 hM3 g3));have HB:=V3 (V5 (hb1.grew (g2.trans g3)) (V5 (hb2.grew (g2.trans g3)) (V5 (hb5.grew g3) (hG.trans (g2.trans g3)))));have HM3:=V3 hM3;have HSZ:=V3 (show w.heap.size+2≤w1.heap.size∧w1.heap.size<w2.heap.size∧w2.heap.size≤w3.heap.size from⟨by have:=HS.out;omega,hb5.lt,g3.size⟩);clear hb1 hb2 hb5 hG g2 g3 hM3 c10 k5 d5;have c10:w3.cell? ⟨w.heap.size,10,none⟩=some (.slice A n c):=HB.out.1.cell 10;generalize w2.heap.size=M at*;go_wp2_with fail;go_loopw [6,8,27] (fun s _ i wr=>∃(j:Nat) (rows:List (List Value)),j≤n∧i= .int .i64 (j:Nat)∧B8 wr M 29 11 s rows∧Ch wr (J9 B0 M s wr.heap.size) ((e.kids.take j).map AW) rows∧AA (fun i=>M≤i) w3 wr) (fun _ _ i _=>n-(intOf i).toNat)
  case atStart=>exact⟨0,[],by omega,rfl,HM3.out,by simpa using Ch.nil _ _,VY _ _⟩
  case round=>
   obtain⟨j,rows,hj,rfl,hM,hTr,hGr⟩:=hrel;obtain⟨As,ns,ks,rfl,hns, -⟩:=hM.slice;have HM:=V3 hM;have HTr:=V3 hTr;have HNS:=V3 hns;have HGr:=V3 hGr;clear hM hTr hns hGr;by_cases hlt:j<n
   ·have hjl:j<e.kids.length:=by rw[←HN.out];exact hlt
    obtain⟨e',he'⟩:∃e',e.kids[j]? =some e':=⟨_,VB hjl⟩;have hmem:e'∈e.kids:=VJ he';have hgw:A4 w wr:=VV HB.out.2.2.2 HGr.out fun i hi (e:M≤i)=>by have:=HSZ.out;omega
    have hTw:JG wr B0 (.slice A n c) e.kids:=HT.out.keep HB0.out (V6 _) hgw (fun _ _ h=>h);obtain⟨b,o,cs,rfl,hb,hrg,hre⟩:=hTw.at_ he';obtain⟨vm',vb',vk',hcs,hm',hy',hT'⟩:=hre.open_;subst hcs;obtain⟨A1,n1,c1,rfl⟩:∃A n c,vm'= .slice A n c:=by obtain⟨A,c,h, -⟩:=hm';exact⟨A,_,c,h⟩
    obtain⟨A2,n2,c2,rfl⟩:∃A n c,vb'= .slice A n c:=by obtain⟨A,c,h, -⟩:=hy';exact⟨A,_,c,h⟩
    obtain⟨A3,n3,c3,rfl, -⟩:=hT'.slice;have hsw:M≤wr.heap.size:=by have:=HGr.out.size;have:=HSZ.out;omega
    have HI:=V3 (fun w' (g:A4 wr w')=>HIH.out e' w' _ (hgw.trans g) (by have:=HB0.out;have:=HSZ.out;have:=g.size;omega) hmem (BU.keep (by have:=HB0.out;have:=HSZ.out;omega) (V6 _) g (fun _ _ h=>h) e' _ hre));have HE:=V3 he';have HRg:=V3 hrg;have HSW:=V3 hsw;clear hjl he' hmem hTw hrg hre hm' hy' hT' hsw hgw;go_wp2_with(first|((with_reducible refine AF 29 (.tmp 29) rfl ?_);refine wpList_load_mid rfl 29 (.tmp 29) rfl b (o+j*11) rfl (AC e' (.slice A1 n1 c1) (.slice A2 n2 c2) (.slice A3 n3 c3)) _ HRg.out Tryz.underlying29 rfl AE ?_)|((with_reducible refine AG 29 (.tmp 8) (.tmp 30) rfl ?_);refine BL 29 (.tmp 8) (.tmp 30) (wr.heap.size) (AC e' (.slice A1 n1 c1) (.slice A2 n2 c2) (.slice A3 n3 c3)) (AJ 0 0) 29 AE rfl (B1 _ _ _ _ _ _ _ _ _ _) rfl rfl rfl rfl (VW wr 29 _) ?_;intro w5 hb5 k5 d5;have g5:A4 wr w5:=VV ((VU wr).alloc _) k5 (fun i hi e=>by omega))|((with_reducible refine AF 29 (.tmp 8) rfl ?_);refine BZ 29 Tryz.underlying29 rfl (.tmp 8) (wr.heap.size) (AC e' (.slice A1 n1 c1) (.slice A2 n2 c2) (.slice A3 n3 c3)) 29 AE rfl rfl rfl hb5 ?_));refine(HI.out _ g5).mono ?_;rintro e2 w6 ⟨cs3,rfl,hr3,k3⟩;obtain⟨vm3,vb3,vk3,rfl,hm3,hy3,hT3⟩:=hr3.open_;obtain⟨Am3,nm3,km3,rfl, -⟩:=hm3.slice;obtain⟨Ab3,nb3,kb3,rfl, -⟩:=hy3.slice;obtain⟨A3',n3',c3',rfl, -⟩:=hT3.slice;have HR3:=V3 (AZ.two_le (M':=wr.heap.size) hr3 g5.size);have HK3:=V3 (g5.trans k3);have hl3:=Dn (AW e') (.slice Am3 nm3 km3) (.slice Ab3 nb3 kb3) (.slice A3' n3' c3');clear k3 HI hr3 hm3 hy3 hT3 g5 hb5 k5 d5;go_wp2_with(at_builtin;refine LU rfl (.tmp 31) (.tmp 35) rfl rfl rfl (V6 _) HM.out HTr.out (by have:=HB0.out;have:=HSZ.out;omega) HSW.out HK3.out HR3.out (by rw[List.length_map,List.length_take];omega) ?_;intro A6 n6 c6 w7 H6);go_wp2_with fail;go_roundw
    case rel=>
     obtain⟨rows6,hM6,hT6,hG6⟩:=H6.out;have hes:(e.kids.take j).map AW++[AW e']=(e.kids.take (j+1)).map AW:=by rw[List.take_add_one,HE.out];simp
     rw[hes]at hT6;exact⟨j+1,_,by omega,by go_num,hM6,hT6,AA.trans HGr.out hG6⟩
    case measure=>simp[intOf];omega
   obtain rfl:j=n:=by omega
   have hes:(e.kids.take j).map AW=e.kids.map AW:=by rw[List.take_of_length_le (by rw[←HN.out];exact V6 _)]
   have hTr:=HTr.out;have hM:=HM.out;rw[hes]at hTr;have hm1:=hM.lt;have hTQ:EX wr (DK B0 M wr.heap.size) (.slice As ns ks) (e.kids.map AW):=hM.treesQ hTr.1 (fun b hb=>⟨.inr (hm1 b hb).1,(hm1 b hb).2⟩) fun i e' cs h1 h2=>AZ.keep (S:=fun _=>False) (fun b hb=>⟨hb.2.1,fun h=>h,hb.1,hb.2.1⟩) (VU wr) e' cs (hTr.2 i e' cs h1 h2)
   have hsz:=HSZ.out;have hbr:=HB.out.1.keep HGr.out (by omega);have hb2:=HB.out.2.1.keep HGr.out (by omega);have hb5:=HB.out.2.2.1.keep HGr.out (by omega);have hgw:A4 w wr:=VV HB.out.2.2.2 HGr.out fun i hi (e:M≤i)=>by omega
   have f10:=hbr.frozen 10;have hb4:AR (wr.setCell ⟨w.heap.size,10,none⟩ (.slice As ns ks)) w.heap.size 29 ((AC e (.slice Am nm km) (.slice Ab nb kb) (.slice As ns ks))).toArray:=hbr.set_ 10 (.slice As ns ks);have k4:AA (fun i=>i=w.heap.size) wr (wr.setCell ⟨w.heap.size,10,none⟩ (.slice As ns ks)):=VZ (S:=fun i=>i=w.heap.size) (p:=⟨w.heap.size,10,none⟩) (VY _ wr) (.inl rfl) _;have hsz4:(wr.setCell ⟨w.heap.size,10,none⟩ (.slice As ns ks)).heap.size=wr.heap.size:=by simp
   have HNs:=V3 (show ns=e.kids.length by have:=hTr.1;rw[List.length_map]at this;rw[HNS.out,this]);have HTQ:=V3 hTQ;have HE4:=V3 (V5 hb4 (V5 (hb2.far (p:=⟨w.heap.size,10,none⟩) (by simp) (.slice As ns ks)) (V5 (hb5.far (p:=⟨w.heap.size,10,none⟩) (by simp;omega) (.slice As ns ks)) (V5 k4 (V5 hsz4 (V5 hgw HGr.out.size))))));have c10':wr.cell? ⟨w.heap.size,10,none⟩=some (.slice A j c):=hbr.cell 10;clear hTQ hbr hb2 hb5 hgw hb4 k4 hsz4 hM hTr HM HTr HNS hes hm1 hsz c10;go_upto_region 9 with fail;generalize wr.setCell ⟨w.heap.size,10,none⟩ (.slice As ns ks)=w4 at*;obtain⟨hb4,hb2,hb5,k4,hsz4,hgw,hw1⟩:=HE4.out;have hsz:=HSZ.out;have hB0:=HB0.out;have hTQ4:EX w4 (DK B0 M wr.heap.size) (.slice As ns ks) (e.kids.map AW):=HTQ.out.keep (S:=fun i=>i=w.heap.size) (fun b hb=>⟨hb.2,fun h=>by rcases hb.1 with h1|h1<;>omega,hb⟩) k4;have hgw4:A4 w w4:=VV hgw k4 fun i hi e=>by omega
   have hMY4:Cg w4 B0 3 (.slice Am nm km) (e.ms.map Ac)∧Cg w4 B0 1 (.slice Ab nb kb) (e.bys.map fun s=>[Value.string s]):=⟨HMY.out.1.keep hB0 (V6 _) hgw4 (fun _ _ h=>h),HMY.out.2.keep hB0 (V6 _) hgw4 (fun _ _ h=>h)⟩;have hE4:∀w',A4 w4 w'→AZ w' (DK B0 M w'.heap.size) (e.withKids (e.kids.map AW)) (AC e (.slice Am nm km) (.slice Ab nb kb) (.slice As ns ks)):=fun w' g=>by
    have hsz:=g.size;have h1:=AZ.mk_ (e:=e.withKids (e.kids.map AW)) (Q:=DK B0 M w'.heap.size) (w:=w') (vm:= .slice Am nm km) (vb:= .slice Ab nb kb) (vk:= .slice As ns ks) (by rw[Lq];exact(hMY4.1.keep (by omega) (V6 _) g (fun _ _ h=>h)).toQ fun b hb=>⟨.inl hb,by omega⟩) (by rw[Iu];exact(hMY4.2.keep (by omega) (V6 _) g (fun _ _ h=>h)).toQ fun b hb=>⟨.inl hb,by omega⟩) (by rw[Bp];exact hTQ4.keep (fun b hb=>⟨by have:=hb.2;omega,fun h=>h,hb.1,by have:=hb.2;omega⟩) g);rwa[NN]at h1
   have HRES:=V3 hE4;have hM2:w.heap.size+2≤M:=by omega
   have HFIN:=V3 (fun(w5 w8:World) (e5:Ex) (cs:List Value) (k8:AA (fun i=>i=w.heap.size+1) w5 w8) (h:AZ w5 (DK B0 M w5.heap.size) e5 cs)=>IG k8 hB0 hM2 h);have c0:w4.cell? ⟨w.heap.size,0,none⟩=some (.int .i64 e.kind):=hb4.cell 0;by_cases h3:e.kind=3
   ·have t1:(e.kind==3)=true:=by simpa using h3
    have hok:=HOK.out;have hp:=hok.top.1.2 h3;obtain⟨ea,eb,hks,hoka,hokb,hnn⟩:=hok.two h3;have hsa:=Fh (AH ea) ea (V6 _) hoka;have hsb:=Fh (AH eb) eb (V6 _) hokb;have hkn:=HKN.out;have hF6:AW e=(Cs e.fn (AW ea) (AW eb)).getD (e.withKids (e.kids.map AW)):=by
     rw[Ff,I2 (a:=AW ea) (b:=AW eb) (by rw[Bp,hks];rfl) (by rw[Cc];exact h3),Mg]
    obtain rfl:ns=2:=by rw[HNs.out,hks];rfl
    have hks2:e.kids.map AW=[AW ea,AW eb]:=by rw[hks];rfl
    rw[hks2,←hsz4]at hTQ4;obtain⟨b,o,cc,csa,csb,hsl,hbq,hra,hrb,hea,heb⟩:=KR hTQ4 rfl;obtain⟨rfl, -,rfl⟩:As=some ⟨b,o,none⟩∧(2:Nat)=2∧ks=cc:=by simpa using hsl
    have hM4:M≤w4.heap.size:=by omega
    have hq4:∀b,DK B0 M w4.heap.size b→b<w4.heap.size:=fun b hb=>hb.2
    have HROW:=V3 (show ∀w',A4 w4 w'→w'.rangeAt b o csa∧w'.rangeAt b (o+11) csb from fun w' g=>⟨AU hra (hq4 _ hbq) g (fun h=>h),AU hrb (hq4 _ hbq) g (fun h=>h)⟩);have HRU:=V3 (fun(m:Nat) (hm:m<6) w' (g:A4 w4 w')=>Qv hm ⟨hp.2.1,hp.2.2⟩ hsa.1 hsb.1 (by omega) (by omega) (HTB.out _ (hgw4.trans g)).1 (HTB.out _ (hgw4.trans g)).2 (fun b hb=>VA (hq4 b hb) g.size) (hea.grewQ hq4 g) (heb.grewQ hq4 g));have HLL:=V3 (V5 hea.len heb.len);have HB5:=V3 (show ∀w',A4 w4 w'→AR w' w1.heap.size 106 ([.func (.func 56) #[] #[],.func (.func 57) #[] #[],.func (.func 58) #[] #[],.func (.func 59) #[] #[],.func (.func 60) #[] #[],.func (.func 61) #[] #[]]:List Value).toArray from fun w' g=>hb5.grew g);have HB24:=V3 (V5 hb4 (V5 hb2 hgw4));have HM4:=V3 hM4;have HSZ4:=V3 hsz4;have HB0W:=V3 (show B0≤w.heap.size from hB0);have HF6:=V3 hF6;clear hE4 hTQ4 hMY4 h3 hB0 hsz4 hgw k4 hF6 hp hoka hokb hnn hsa hsb hkn hks hks2 hra hrb hea heb hbq hsz hw1 hM2 hb5 hb4 hb2 hgw4 hok hM4 hq4 hsl;have HFN:=V3 (show ∀w',A4 w4 w'→w'.cell? ⟨w.heap.size,1,none⟩=some (.int .i64 e.fn)from fun w' g=>(HB24.out.1.grew g).cell 1);generalize AW ea=a at*;generalize AW eb=b' at*;generalize e.fn=fnv at*;go_wp2_with fail;go_loopw [10,11,12,46] (fun _ _ _ i wr=>∃m:Nat,i= .int .i64 (m:Nat)∧m≤6∧(∀k,k<m→Bj k fnv a b'=none)∧A4 w4 wr) (fun _ _ _ i _=>6-(intOf i).toNat)
    case atStart=>exact⟨0,rfl,by omega,fun k hk=>by omega,VU _⟩
    case round=>
     obtain⟨m,rfl,hm,hnone,hg⟩:=hrel;have HGX:=V3 hg;have HNO:=V3 hnone;have b4:=HB24.out.1.grew hg;have b2:=HB24.out.2.1.grew hg;by_cases hlt:m<6
     ·have hcell:(([.func (.func 56) #[] #[],.func (.func 57) #[] #[],.func (.func 58) #[] #[],.func (.func 59) #[] #[],.func (.func 60) #[] #[],.func (.func 61) #[] #[]]:List Value).toArray)[m]? =some (.func (.func (Lx m)) #[] #[]):=by
       rcases m with _|_|_|_|_|_|m<;>first|rfl|omega
      have HAP0:=V3 (HRU.out m hlt);obtain⟨F,hF⟩:∃F,Lx m=F:=⟨_,rfl⟩;obtain⟨ok,hok⟩:∃ok,(Bj m fnv a b').isSome=ok:=⟨_,rfl⟩;have HAP:=V3 (show ∀w',A4 w4 w'→Calls Tryz.prog F #[.int .i64 fnv,.agg csa.toArray,.agg csb.toArray] w' fun e' w''=>∃cs,e'= .returned (.tuple #[.agg cs.toArray,.bool ok])∧cs.length=11∧(∀v∈cs,v.oneCell'=true)∧(∀t,Bj m fnv a b'=some t→AZ w'' (fun b=>DK B0 M w4.heap.size b∨(w'.heap.size≤b∧b<w''.heap.size)) t cs)∧A4 w' w'' from fun w' g=>by
       rw[←hF,←hok];exact HAP0.out w' g)
      have HOK2:=V3 hok;have HRN:=V3 (show ∀w',(callFunc F #[.int .i64 fnv,.agg csa.toArray,.agg csb.toArray]).run Tryz.prog w'= .ok (.enter F #[.int .i64 fnv,.agg csa.toArray,.agg csb.toArray]) w' from fun w'=>by rw[←hF];exact Oe hlt _ w');rw[hF]at hcell;have r0:wr.rangeAt w1.heap.size m [.func (.func F) #[] #[]]:=fun j u hu=>by
       rcases j with _|j
       ·obtain rfl:Value.func (.func F) #[] #[]=u:=by simpa using hu
        exact((HB5.out wr hg).cell m).trans hcell
       simp at hu
      have r0c:wr.cell? ⟨w1.heap.size,m,none⟩=some (.func (.func F) #[] #[]):=((HB5.out wr hg).cell m).trans hcell;clear hg hnone hF hok hcell HAP0;go_upto_region 13 with(first|((with_reducible refine AF 105 (.tmp 48) rfl ?_);refine wpList_load_mid rfl 105 (.tmp 48) rfl (w1.heap.size) m rfl [.func (.func F) #[] #[]] _ r0 Tryz.underlying105 rfl Qb ?_)|((with_reducible refine AG 105 (.tmp 10) (.tmp 49) rfl ?_);refine BL 105 (.tmp 10) (.tmp 49) (wr.heap.size) [.func (.func F) #[] #[]] [.nilFunc] 105 Qb rfl (by intro v hv;simp at hv;subst hv;rfl) rfl rfl rfl rfl (VW wr 105 _) ?_;intro w7 hb10 k10 d10;have g7:A4 wr w7:=VV ((VU wr).alloc _) k10 (fun i hi e=>by omega)));have h7:A4 w4 w7:=HGX.out.trans g7;have HA:=V3 (show ∀w',A4 w7.drew w'→A4 w7 w'∧w'.cell? ⟨wr.heap.size,0,none⟩=some (.func (.func F) #[] #[])∧w'.cell? ⟨w.heap.size,1,none⟩=some (.int .i64 fnv)∧w'.rangeAt b o csa∧w'.rangeAt b (o+11) csb from fun w' g=>by
       have gg:A4 w7 w':=(VX (VU w7)).trans g;exact⟨gg,(hb10.grew gg).cell 0,HFN.out w' (h7.trans gg),HROW.out w' (h7.trans gg)⟩)
      have b27:=b2.grew g7;have HB7:=V3 (V5 b27 (V5 h7 (show M≤w7.heap.size by have:=HM4.out;have:=h7.size;omega)));clear b4 b2 b27 h7 g7 hb10 k10 d10 r0 r0c;generalize wr.heap.size=z10 at*;dsimp only[Act.put];refine C6 [(15,fun w'=>A4 w7.drew w')] (by kernel_rfl) (by intro pp hp;obtain rfl:=VF.1 hp;exact VU _) ?_;intro hcl hkn
      refine' AV (i:=0) (v:=_) rfl (by kernel_rfl) (by kernel_rfl) (by kernel_rfl) hcl hkn (by rfl) (fun _ _ _ h=>h) rfl ?_ ?_
      rotate_left
      ·intro w';go_simp;try with_reducible rfl
      clear hcl hkn;intro hcl hkn
      try simp only[List.getElem_toArray,List.getElem_cons_zero,List.getElem_cons_succ,Act.put,List.setIfInBounds_toArray,List.set_cons_zero,List.set_cons_succ]
      refine' DQ 15 _ (i:=1) (v:=_) rfl (by kernel_rfl) (by kernel_rfl) (by kernel_rfl) hcl hkn (by rfl) 0 rfl (by kernel_rfl) (fun _ _ _ h=>h) rfl ?_ ?_
      rotate_left
      ·rintro w' hA;have hc9:=(HA.out _ hA).2.1;go_simp;try with_reducible rfl
      clear hcl hkn;intro hcl hkn
      try simp only[List.getElem_toArray,List.getElem_cons_zero,List.getElem_cons_succ,Act.put,List.setIfInBounds_toArray,List.set_cons_zero,List.set_cons_succ]
      refine' AV (i:=2) (v:=_) rfl (by kernel_rfl) (by kernel_rfl) (by kernel_rfl) hcl hkn (by rfl) (fun _ _ _ h=>h) rfl ?_ ?_
      rotate_left
      ·intro w';go_simp;try with_reducible rfl
      clear hcl hkn;intro hcl hkn
      try simp only[List.getElem_toArray,List.getElem_cons_zero,List.getElem_cons_succ,Act.put,List.setIfInBounds_toArray,List.set_cons_zero,List.set_cons_succ]
      refine' DQ 15 _ (i:=3) (v:=_) rfl (by kernel_rfl) (by kernel_rfl) (by kernel_rfl) hcl hkn (by rfl) 0 rfl (by kernel_rfl) (fun _ _ _ h=>h) rfl ?_ ?_
      rotate_left
      ·rintro w' hA;have hc9:=(HA.out _ hA).2.2.1;go_simp;try with_reducible rfl
      clear hcl hkn;intro hcl hkn
      try simp only[List.getElem_toArray,List.getElem_cons_zero,List.getElem_cons_succ,Act.put,List.setIfInBounds_toArray,List.set_cons_zero,List.set_cons_succ]
      refine' AV (i:=4) (v:=_) rfl (by kernel_rfl) (by kernel_rfl) (by kernel_rfl) hcl hkn (by rfl) (fun _ _ _ h=>h) rfl ?_ ?_
      rotate_left
      ·intro w';go_simp;try with_reducible rfl
      clear hcl hkn;intro hcl hkn
      try simp only[List.getElem_toArray,List.getElem_cons_zero,List.getElem_cons_succ,Act.put,List.setIfInBounds_toArray,List.set_cons_zero,List.set_cons_succ]
      refine' AV (i:=5) (v:=_) rfl (by kernel_rfl) (by kernel_rfl) (by kernel_rfl) hcl hkn (by rfl) (fun _ _ _ h=>h) rfl ?_ ?_
      rotate_left
      ·intro w';go_simp;try with_reducible rfl
      clear hcl hkn;intro hcl hkn
      try simp only[List.getElem_toArray,List.getElem_cons_zero,List.getElem_cons_succ,Act.put,List.setIfInBounds_toArray,List.set_cons_zero,List.set_cons_succ]
      refine Bg 15 _ (i:=6) rfl (by kernel_rfl) (by kernel_rfl) (by kernel_rfl) hcl hkn (by rfl) 0 rfl (by kernel_rfl) 29 (.tmp 56) rfl b (o) rfl csa _ (fun w h=>(HA.out w h).2.2.2.1) Tryz.underlying29 rfl (by rw[HLL.out.1];exact AE) (fun _ _ _ h=>h) rfl ?_;clear hcl hkn;intro hcl hkn
      try simp only[List.getElem_toArray,List.getElem_cons_zero,List.getElem_cons_succ,Act.put,List.setIfInBounds_toArray,List.set_cons_zero,List.set_cons_succ]
      refine' AV (i:=7) (v:=_) rfl (by kernel_rfl) (by kernel_rfl) (by kernel_rfl) hcl hkn (by rfl) (fun _ _ _ h=>h) rfl ?_ ?_
      rotate_left
      ·intro w';go_simp;try with_reducible rfl
      clear hcl hkn;intro hcl hkn
      try simp only[List.getElem_toArray,List.getElem_cons_zero,List.getElem_cons_succ,Act.put,List.setIfInBounds_toArray,List.set_cons_zero,List.set_cons_succ]
      refine' AV (i:=8) (v:=_) rfl (by kernel_rfl) (by kernel_rfl) (by kernel_rfl) hcl hkn (by rfl) (fun _ _ _ h=>h) rfl ?_ ?_
      rotate_left
      ·intro w';go_simp;try with_reducible rfl
      clear hcl hkn;intro hcl hkn
      try simp only[List.getElem_toArray,List.getElem_cons_zero,List.getElem_cons_succ,Act.put,List.setIfInBounds_toArray,List.set_cons_zero,List.set_cons_succ]
      refine Bg 15 _ (i:=9) rfl (by kernel_rfl) (by kernel_rfl) (by kernel_rfl) hcl hkn (by rfl) 0 rfl (by kernel_rfl) 29 (.tmp 59) rfl b ((o+11)) rfl csb _ (fun w h=>(HA.out w h).2.2.2.2) Tryz.underlying29 rfl (by rw[HLL.out.2];exact AE) (fun _ _ _ h=>h) rfl ?_;clear hcl hkn;intro hcl hkn
      try simp only[List.getElem_toArray,List.getElem_cons_zero,List.getElem_cons_succ,Act.put,List.setIfInBounds_toArray,List.set_cons_zero,List.set_cons_succ]
      have g77:A4 w7 w7.drew:=VX (VU w7);refine Od (i:=10) (j:=14) hcl (by kernel_rfl) rfl rfl rfl rfl (fun K hK=>?_) (fun K hK=>?_)
      ·go_simp;rw[HRN.out];show Calls _ _ _ _ _;(with_reducible refine(HAP.out _ (HB7.out.2.1.trans g77)).mono ?_);rintro e3 wq ⟨cs,rfl,hlc,hoc,htc,gq⟩;refine hK _ _ (Aw (.inr gq)) ?_;clear hK K;clear hcl hkn;intro hcl hkn
       try simp only[List.getElem_toArray,List.getElem_cons_zero,List.getElem_cons_succ,Act.put,List.setIfInBounds_toArray,List.set_cons_zero,List.set_cons_succ]
       refine' AV (i:=11) (v:=_) rfl (by kernel_rfl) (by kernel_rfl) (by kernel_rfl) hcl hkn (by rfl) (fun _ _ _ h=>h) rfl ?_ ?_
       rotate_left
       ·intro w';go_simp;try with_reducible rfl
       clear hcl hkn;intro hcl hkn
       try simp only[List.getElem_toArray,List.getElem_cons_zero,List.getElem_cons_succ,Act.put,List.setIfInBounds_toArray,List.set_cons_zero,List.set_cons_succ]
       refine' AV (i:=12) (v:=_) rfl (by kernel_rfl) (by kernel_rfl) (by kernel_rfl) hcl hkn (by rfl) (fun _ _ _ h=>h) rfl ?_ ?_
       rotate_left
       ·intro w';go_simp;try with_reducible rfl
       clear hcl hkn;intro hcl hkn
       try simp only[List.getElem_toArray,List.getElem_cons_zero,List.getElem_cons_succ,Act.put,List.setIfInBounds_toArray,List.set_cons_zero,List.set_cons_succ]
       refine' AV (i:=13) (v:=_) rfl (by kernel_rfl) (by kernel_rfl) (by kernel_rfl) hcl hkn (by rfl) (fun _ _ _ h=>h) rfl ?_ ?_
       rotate_left
       ·intro w';go_simp;try with_reducible rfl
       clear hcl hkn;intro hcl hkn
       try simp only[List.getElem_toArray,List.getElem_cons_zero,List.getElem_cons_succ,Act.put,List.setIfInBounds_toArray,List.set_cons_zero,List.set_cons_succ]
       refine BF hcl (i:=14) (by kernel_rfl) rfl rfl (fun K hK=>?_);go_simp;refine hK _ _ (Aw (.inr (gq.alloc _))) ?_;clear hK K;clear hcl hkn;intro hcl hkn
       try simp only[List.getElem_toArray,List.getElem_cons_zero,List.getElem_cons_succ,Act.put,List.setIfInBounds_toArray,List.set_cons_zero,List.set_cons_succ]
       have hb11:=VW wq 29 (AJ 0 0).toArray;refine BF hcl (i:=15) (by kernel_rfl) rfl rfl (fun K hK=>?_);refine EU 29 (.tmp 11) (.tmp 62) (wq.heap.size) cs (AJ 0 0) 29 (by rw[hlc];exact AE) (by rw[hlc];rfl) hoc rfl rfl rfl hb11 ?_;intro w12 hb12 k12;refine hK _ _ (Aw (.inl (by kernel_rfl))) ?_;clear hK K;clear hcl hkn;intro hcl hkn
       try simp only[List.getElem_toArray,List.getElem_cons_zero,List.getElem_cons_succ,Act.put,List.setIfInBounds_toArray,List.set_cons_zero,List.set_cons_succ]
       refine' AV (i:=16) (v:=_) rfl (by kernel_rfl) (by kernel_rfl) (by kernel_rfl) hcl hkn (by rfl) (fun _ _ _ h=>h) rfl ?_ ?_
       rotate_left
       ·intro w';go_simp;try with_reducible rfl
       clear hcl hkn;intro hcl hkn
       try simp only[List.getElem_toArray,List.getElem_cons_zero,List.getElem_cons_succ,Act.put,List.setIfInBounds_toArray,List.set_cons_zero,List.set_cons_succ]
       refine Ca (by kernel_rfl) ?_ _;have hs7:=gq.size;have hs4:=HB7.out.2.1.size;have hsd:w7.drew.heap.size=w7.heap.size:=rfl;have hsM:=HM4.out;have g12:A4 wq w12:=VV ((VU wq).alloc _) k12 fun i hi e=>by omega
       have hs12:=g12.size;have g712:A4 w7 w12:=g77.trans (gq.trans g12);have HRD:=V3 (show ∀t,Bj m fnv a b'=some t→AZ w12 (DK B0 M w12.heap.size) t cs from fun t ht=>AZ.keep (S:=fun _=>False) (fun b hb=>by rcases hb with hb|hb;exact⟨by have:=hb.2;omega,fun h=>h,hb.1,by have:=hb.2;omega⟩;exact⟨hb.2,fun h=>h,.inr (by omega),by omega⟩) g12 t cs (htc t ht));have b2z:=HB7.out.1.grew g712;have HGZ:=V3 (HB7.out.2.1.trans g712);clear htc gq g12 g712 k12 hb11 hs7 hs4 hsd hsM hs12;generalize wq.heap.size=z at*;clear hcl hkn HA;rcases ok with _|_
       ·have HN1:=V3 (show Bj m fnv a b'=none by have:=HOK2.out;simpa using this);go_wp2_with fail;go_roundw
        case rel=>
         refine⟨m+1,by go_num,by omega,fun k hk=>?_,HGZ.out⟩;rcases Nat.lt_succ_iff_lt_or_eq.1 hk with h|rfl
         ·exact HNO.out k h
         exact HN1.out
        case measure=>simp[intOf];omega
       obtain⟨t,ht⟩:=Option.isSome_iff_exists.1 HOK2.out;have HT1:=V3 ht;clear ht;go_wp2_with(first|((with_reducible refine AF 29 (.tmp 11) rfl ?_);refine BZ 29 Tryz.underlying29 rfl (.tmp 11) z cs 29 (by rw[hlc];exact AE) rfl rfl rfl hb12 ?_)|((with_reducible refine AG 29 (.tmp 4) (.tmp 65) rfl ?_);refine BL 29 (.tmp 4) (.tmp 65) (w.heap.size+1) cs (AJ 0 0) 29 (by rw[hlc];exact AE) (by rw[hlc];rfl) hoc rfl rfl rfl rfl b2z ?_;intro w8 hb8 k8 d8));refine bodyPost_ret (AO rfl rfl (by rw[hlc];exact AE) Tryz.underlying29 rfl hb8) rfl ?_;refine⟨cs,rfl,?_,VV (HB24.out.2.2.trans HGZ.out) k8 (fun i hi e=>by omega)⟩;rw[HF6.out,Gk hlt HNO.out HT1.out];exact HFIN.out w12 w8 t cs k8 (HRD.out t HT1.out)
      go_simp;obtain⟨w11,hw11⟩:∃w11,w11=w7.drew.alloc (.cells (AJ 0 0).toArray 29):=⟨_,rfl⟩;have hb11:AR w11 w7.heap.size 29 (AJ 0 0).toArray:=by rw[hw11];exact VW w7.drew 29 _
      have ga:A4 w7.drew w11:=by rw[hw11];exact(VU _).alloc _
      have hsa:w11.heap.size=w7.heap.size+1:=by rw[hw11];simp
      change K _ (w7.drew.alloc (.cells (AJ 0 0).toArray 29));rw[←hw11];clear hw11;refine hK _ _ (Aw (.inr ga)) ?_;clear hK K;clear hcl hkn;intro hcl hkn
      try simp only[List.getElem_toArray,List.getElem_cons_zero,List.getElem_cons_succ,Act.put,List.setIfInBounds_toArray,List.set_cons_zero,List.set_cons_succ]
      refine BF hcl (i:=10) (by kernel_rfl) rfl rfl (fun K hK=>?_);go_simp;rw[HRN.out];show Calls _ _ _ _ _;(with_reducible refine(HAP.out _ ((HB7.out.2.1.trans g77).trans ga)).mono ?_);rintro e3 wq ⟨cs,rfl,hlc,hoc,htc,gq⟩;refine hK _ _ (Aw (.inr (ga.trans gq))) ?_;clear hK K;clear hcl hkn;intro hcl hkn
      try simp only[List.getElem_toArray,List.getElem_cons_zero,List.getElem_cons_succ,Act.put,List.setIfInBounds_toArray,List.set_cons_zero,List.set_cons_succ]
      refine' AV (i:=11) (v:=_) rfl (by kernel_rfl) (by kernel_rfl) (by kernel_rfl) hcl hkn (by rfl) (fun _ _ _ h=>h) rfl ?_ ?_
      rotate_left
      ·intro w';go_simp;try with_reducible rfl
      clear hcl hkn;intro hcl hkn
      try simp only[List.getElem_toArray,List.getElem_cons_zero,List.getElem_cons_succ,Act.put,List.setIfInBounds_toArray,List.set_cons_zero,List.set_cons_succ]
      refine' AV (i:=12) (v:=_) rfl (by kernel_rfl) (by kernel_rfl) (by kernel_rfl) hcl hkn (by rfl) (fun _ _ _ h=>h) rfl ?_ ?_
      rotate_left
      ·intro w';go_simp;try with_reducible rfl
      clear hcl hkn;intro hcl hkn
      try simp only[List.getElem_toArray,List.getElem_cons_zero,List.getElem_cons_succ,Act.put,List.setIfInBounds_toArray,List.set_cons_zero,List.set_cons_succ]
      refine' AV (i:=13) (v:=_) rfl (by kernel_rfl) (by kernel_rfl) (by kernel_rfl) hcl hkn (by rfl) (fun _ _ _ h=>h) rfl ?_ ?_
      rotate_left
      ·intro w';go_simp;try with_reducible rfl
      clear hcl hkn;intro hcl hkn
      try simp only[List.getElem_toArray,List.getElem_cons_zero,List.getElem_cons_succ,Act.put,List.setIfInBounds_toArray,List.set_cons_zero,List.set_cons_succ]
      have hb11q:=hb11.grew gq;refine BF hcl (i:=15) (by kernel_rfl) rfl rfl (fun K hK=>?_);refine EU 29 (.tmp 11) (.tmp 62) (w7.heap.size) cs (AJ 0 0) 29 (by rw[hlc];exact AE) (by rw[hlc];rfl) hoc rfl rfl rfl hb11q ?_;intro w12 hb12 k12;refine hK _ _ (Aw (.inl (by kernel_rfl))) ?_;clear hK K;clear hcl hkn;intro hcl hkn
      try simp only[List.getElem_toArray,List.getElem_cons_zero,List.getElem_cons_succ,Act.put,List.setIfInBounds_toArray,List.set_cons_zero,List.set_cons_succ]
      refine' AV (i:=16) (v:=_) rfl (by kernel_rfl) (by kernel_rfl) (by kernel_rfl) hcl hkn (by rfl) (fun _ _ _ h=>h) rfl ?_ ?_
      rotate_left
      ·intro w';go_simp;try with_reducible rfl
      clear hcl hkn;intro hcl hkn
      try simp only[List.getElem_toArray,List.getElem_cons_zero,List.getElem_cons_succ,Act.put,List.setIfInBounds_toArray,List.set_cons_zero,List.set_cons_succ]
      refine Ca (by kernel_rfl) ?_ _;have hs7:=gq.size;have hs4:=HB7.out.2.1.size;have hsd:w7.drew.heap.size=w7.heap.size:=rfl;have hsM:=HM4.out;have hs12:=k12.size;have g712:A4 w7 w12:=VV (g77.trans (ga.trans gq)) k12 fun i hi e=>by omega
      have htc':∀t,Bj m fnv a b'=some t→AZ wq (fun b=>DK B0 M w4.heap.size b∨(w7.heap.size+1≤b∧b<wq.heap.size)) t cs:=by rw[←hsa];exact htc
      have hs7':w7.heap.size+1≤wq.heap.size:=by rw[←hsa];exact hs7
      have HRD:=V3 (show ∀t,Bj m fnv a b'=some t→AZ w12 (DK B0 M w12.heap.size) t cs from fun t ht=>AZ.keep (S:=fun i=>i=w7.heap.size) (fun b hb=>by rcases hb with hb|hb;exact⟨by have:=hb.2;omega,fun h=>by have:=hb.2;omega,hb.1,by have:=hb.2;omega⟩;exact⟨hb.2,fun h=>by omega,.inr (by omega),by omega⟩) k12 t cs (htc' t ht));have b2z:=HB7.out.1.grew g712;have HGZ:=V3 (HB7.out.2.1.trans g712);clear htc htc' gq ga g712 k12 hb11 hb11q hs7 hs7' hs4 hsd hsM hs12 hsa;generalize w7.heap.size=z at*;clear hcl hkn HA;rcases ok with _|_
      ·have HN1:=V3 (show Bj m fnv a b'=none by have:=HOK2.out;simpa using this);go_wp2_with fail;go_roundw
       case rel=>
        refine⟨m+1,by go_num,by omega,fun k hk=>?_,HGZ.out⟩;rcases Nat.lt_succ_iff_lt_or_eq.1 hk with h|rfl
        ·exact HNO.out k h
        exact HN1.out
       case measure=>simp[intOf];omega
      obtain⟨t,ht⟩:=Option.isSome_iff_exists.1 HOK2.out;have HT1:=V3 ht;clear ht;go_wp2_with(first|((with_reducible refine AF 29 (.tmp 11) rfl ?_);refine BZ 29 Tryz.underlying29 rfl (.tmp 11) z cs 29 (by rw[hlc];exact AE) rfl rfl rfl hb12 ?_)|((with_reducible refine AG 29 (.tmp 4) (.tmp 65) rfl ?_);refine BL 29 (.tmp 4) (.tmp 65) (w.heap.size+1) cs (AJ 0 0) 29 (by rw[hlc];exact AE) (by rw[hlc];rfl) hoc rfl rfl rfl rfl b2z ?_;intro w8 hb8 k8 d8));refine bodyPost_ret (AO rfl rfl (by rw[hlc];exact AE) Tryz.underlying29 rfl hb8) rfl ?_;refine⟨cs,rfl,?_,VV (HB24.out.2.2.trans HGZ.out) k8 (fun i hi e=>by omega)⟩;rw[HF6.out,Gk hlt HNO.out HT1.out];exact HFIN.out w12 w8 t cs k8 (HRD.out t HT1.out)
     obtain rfl:m=6:=by omega
     have HF:=V3 (show AW e=e.withKids (e.kids.map AW) by rw[HF6.out,Gn HNO.out];rfl);clear hg hnone;go_wp2_with(first|((with_reducible refine AF 29 (.tmp 2) rfl ?_);refine BZ 29 Tryz.underlying29 rfl (.tmp 2) (w.heap.size) (AC e (.slice Am nm km) (.slice Ab nb kb) (.slice (some ⟨b,o,none⟩) 2 ks)) 29 AE rfl rfl rfl b4 ?_)|((with_reducible refine AG 29 (.tmp 4) (.tmp 67) rfl ?_);refine BL 29 (.tmp 4) (.tmp 67) (w.heap.size+1) (AC e (.slice Am nm km) (.slice Ab nb kb) (.slice (some ⟨b,o,none⟩) 2 ks)) (AJ 0 0) 29 AE rfl (B1 _ _ _ _ _ _ _ _ _ _) rfl rfl rfl rfl b2 ?_;intro w8 hb8 k8 d8));refine bodyPost_ret (AO rfl rfl AE Tryz.underlying29 rfl hb8) rfl ?_;refine⟨(AC e (.slice Am nm km) (.slice Ab nb kb) (.slice (some ⟨b,o,none⟩) 2 ks)),rfl,?_,VV (HB24.out.2.2.trans HGX.out) k8 (fun i hi e=>by omega)⟩;rw[HF.out];exact HFIN.out wr w8 _ _ k8 (HRES.out wr HGX.out)
   have t1:(e.kind==3)=false:=by simpa using h3
   have hfin:AW e=e.withKids (e.kids.map AW):=by rw[Ff];exact I7 (by rw[Cc];exact h3)
   have HF:=V3 hfin;clear hE4 hTQ4 hMY4 hfin h3 hB0 hsz4 hgw k4 hsz hw1 hM2;go_wp2_with(first|((with_reducible refine AF 29 (.tmp 2) rfl ?_);refine BZ 29 Tryz.underlying29 rfl (.tmp 2) (w.heap.size) (AC e (.slice Am nm km) (.slice Ab nb kb) (.slice As ns ks)) 29 AE rfl rfl rfl hb4 ?_)|((with_reducible refine AG 29 (.tmp 4) (.tmp 67) rfl ?_);refine BL 29 (.tmp 4) (.tmp 67) (w.heap.size+1) (AC e (.slice Am nm km) (.slice Ab nb kb) (.slice As ns ks)) (AJ 0 0) 29 AE rfl (B1 _ _ _ _ _ _ _ _ _ _) rfl rfl rfl rfl hb2 ?_;intro w8 hb8 k8 d8));refine bodyPost_ret (AO rfl rfl AE Tryz.underlying29 rfl hb8) rfl ?_;refine⟨(AC e (.slice Am nm km) (.slice Ab nb kb) (.slice As ns ks)),rfl,?_,VV hgw4 k8 (fun i hi e=>by omega)⟩;rw[HF.out];exact HFIN.out w4 w8 _ _ k8 (HRES.out w4 (VU _))
theorem O9 (e:Ex) (hn:AH e≤1000000) (hok:BW Bz e) (hs:Ey e) (hv:DP e=0) (hN:BW Bz (AW e)) (w:World) (cs:List Value) (hwt:DI w) (hot:EB w) (hr:BU w w.heap.size e cs):
  Calls Tryz.prog 8 #[.agg cs.toArray] w (Jq w 0 (AW e)):=by
 have hone:∀v∈cs,v.oneCell'=true:=Ap (BU.toQ (Q:=fun _=>True) (fun _ _=>trivial) e cs hr);obtain⟨vm,vb,vk,rfl, -⟩:=hr.open_;obtain⟨hb1,hb2,hG⟩:=CI w 29 29 (AC e vm vb vk).toArray (AJ 0 0).toArray;have hs2:((w.alloc (.cells (AC e vm vb vk).toArray 29)).alloc (.cells (AJ 0 0).toArray 29)).heap.size=w.heap.size+2:=by simp
 have HR:=V3 (fun w' (g:A4 w w')=>hr.grew g);have HVd:=V3 (fun w' (g:A4 w w')=>FG e hn hok w' (AC e vm vb vk) (hwt.grew g) (hr.grew g));rw[hv]at HVd;have HT:=V3 (fun w' (g:A4 w w')=>V5 (hwt.grew g) (hot.keep g (fun h=>h)));have HSO:=V3 hs;have HNN:=V3 hN;have HOK:=V3 hok;have HN:=V3 hn;clear hr hok hn hwt hot hs hN hv;go_enter Tryz.func8,Tryz.ntmps8;go_upto_region 1 with fail;change Code.wp _ _ _ _ ((w.alloc (.cells (AC e vm vb vk).toArray 29)).alloc (.cells (AJ 0 0).toArray 29));generalize (w.alloc (.cells (AC e vm vb vk).toArray 29)).alloc (.cells (AJ 0 0).toArray 29)=w1 at*;have HS:=V3 hs2;have HG:=V3 hG;clear hs2 hG;go_upto_region 3 with(first|((with_reducible refine AF 29 (.tmp 1) rfl ?_);refine BZ 29 Tryz.underlying29 rfl (.tmp 1) (w.heap.size) (AC e vm vb vk) 29 AE rfl rfl rfl hb1 ?_)|(go_at_call 12;(with_reducible refine(HVd.out _ HG.out).mono ?_);rintro e3 w3 ⟨rfl,k3⟩));have hb3:=hb1.grew k3;have hb4:=hb2.grew k3;have HG3:=V3 (HG.out.trans k3);have hs3:=k3.size;have HS3:=V3 (show w.heap.size+2≤w3.heap.size by have:=HS.out;omega);have HSi:=V3 (JM (AH e) e (V6 _) HN.out HSO.out w3 w3.heap.size (AC e vm vb vk) (HT.out _ HG3.out).1 (HT.out _ HG3.out).2 (V6 _) (HR.out w3 HG3.out));have HSe:=V3 (fun w' cs' (h:BU w' w'.heap.size (AW e) cs')=>O3 (AH (AW e)) (AW e) (V6 _) (VD (Fh (AH e) e (V6 _) HSO.out).2 HN.out) HNN.out w' cs' h);clear hb1 hb2 k3 hs3 HVd;go_wp2_with(first|((with_reducible refine AF 29 (.tmp 1) rfl ?_);refine BZ 29 Tryz.underlying29 rfl (.tmp 1) (w.heap.size) (AC e vm vb vk) 29 AE rfl rfl rfl hb3 ?_)|(go_at_call 29;(with_reducible refine HSi.out.mono ?_);rintro e4 w4 ⟨Y,rfl,hrY,k4⟩;have HY:=V3 (AZ.toB (B:=w4.heap.size) (fun b hb=>hb.2) _ _ hrY);clear hrY;have hs4:=k4.size;have HS4:=V3 (VD HS3.out hs4);clear hs4)|(go_at_call 28;(with_reducible refine(HSe.out _ _ HY.out).mono ?_);rintro e5 w5 ⟨X,rfl,hrX,k5⟩;have hX1:=Ap hrX;have hXl:X.length=11:=(by obtain⟨a,b,c,h, -⟩:=hrX.open_;rw[h];rfl);have HX:=V3 hrX;have HXl:=V3 hXl;clear hrX hXl;have hb5:=hb4.grew (k4.trans k5))|((with_reducible refine AG 29 (.tmp 2) (.tmp 10) rfl ?_);refine BL 29 (.tmp 2) (.tmp 10) (w.heap.size+1) X (AJ 0 0) 29 (by rw[HXl.out];exact AE) HXl.out.symm hX1 rfl rfl rfl rfl hb5 ?_;intro w8 hb8 k8 d8));refine bodyPost_ret (AO rfl rfl (by rw[HXl.out];exact AE) Tryz.underlying29 rfl hb8) rfl ?_;refine⟨X,rfl,?_,VV (HG3.out.trans (k4.trans k5)) k8 (fun i hi e=>by omega)⟩;exact IG k8 (Nat.zero_le _) HS4.out HX.out
end Go.Proofs.YthpflelgbadkcaaGreatDoor
