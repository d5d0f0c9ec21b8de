/- What the card of the law stands on: SmpB, Rwr. -/
import Derived.Test.YthpflelgbadkcaaGreatDoorRewriteReadsP01
import Derived.Test.YthpflelgbadkcaaGreatDoorRewriteReadsP32
import Derived.Test.YthpflelgbadkcaaGreatDoorRewriteReadsP07
import Derived.Deep.DeepCutAuto
set_option maxRecDepth 100000
set_option maxHeartbeats 12800000
set_option linter.unusedVariables false
set_option linter.unusedSimpArgs false
namespace Go.Proofs.YthpflelgbadkcaaGreatDoor
open Go.RowKit Pl
section
variable {P:Program} {md:Region.Mode} {ops:Array Oper} {Q:Exit→Act→World→Prop} {Gs:List (Nat×(World→Prop))}
theorem Nn {i j:Nat} {oi oj:Oper} {fuel:Nat} {listed:Array Bool} {a:Act} {w:World} (hcl:B6 md ops listed) (hr:Region.ready md ops listed=[i,j]) (hi:ops[i]? =some oi) (hgi:oi.guard=none) (hj:ops[j]? =some oj) (hgj:oj.guard=none)
  (h1:∀K:Act→World→Prop,(∀a' w',BV Gs (listed.setIfInBounds i true) w'→(B6 md ops (listed.setIfInBounds i true)→BV Gs (listed.setIfInBounds i true) w'→Bf P md ops Q Gs fuel (listed.setIfInBounds i true) a' w')→K a' w')→oi.wp P a w K Q)
  (h2:∀K:Act→World→Prop,(∀a' w',BV Gs (listed.setIfInBounds j true) w'→(B6 md ops (listed.setIfInBounds j true)→BV Gs (listed.setIfInBounds j true) w'→Bf P md ops Q Gs fuel (listed.setIfInBounds j true) a' w')→K a' w')→oj.wp P a w K Q):Bf P md ops Q Gs (fuel+1) listed a w:=by
 refine⟨(fun h0=>by rw[hr]at h0;cases h0),fun l hl=>?_⟩;have hl':=hl;rw[hr]at hl;rcases List.mem_cons.1 hl with rfl|hl
 ·unfold wpOp;simp only[hi,Region.wanted,hgi,if_true];exact .inl (h1 _ fun a' w' h1 h2=>⟨h1,h2 (hcl.set hl') h1⟩)
 obtain rfl:=SJ.1 hl;unfold wpOp;simp only[hj,Region.wanted,hgj,if_true];exact .inl (h2 _ fun a' w' h1 h2=>⟨h1,h2 (hcl.set hl') h1⟩)
end
theorem Nj {m:Nat} (hm:m<6) (args:Array Value) (w:World):(callFunc (LY m) args).run Tryz.prog w= .ok (.enter (LY m) args) w:=by
 rcases m with _|_|_|_|_|_|m
 ·kernel_rfl
 ·kernel_rfl
 ·kernel_rfl
 ·kernel_rfl
 ·kernel_rfl
 ·kernel_rfl
 omega
theorem ID:∀(k:Nat) (e:Ex),AL e≤k→k≤1000000→EH e→∀(w:World) (B0:Nat) (cs:List Value),D5 w→Dc w→B0≤w.heap.size→BZ w B0 e cs→
  Calls Tryz.prog 29 #[.agg cs.toArray,.int .i64 6] w (FG w B0 (Ah e))
 |0,e,h,_,_,_,_,_,_,_,_,_=>absurd (Aw e) (by omega)
 |k+1,e,hk,hk2,hok,w,B0,cs,hwt,hot,hB0,hr=>by
  obtain⟨vm,vb,vk,rfl,hm,hy,hT⟩:=hr.open_;obtain⟨Am,nm,km,rfl⟩:∃A n c,vm= .slice A n c:=by obtain⟨A,c,h, -⟩:=hm;exact⟨A,_,c,h⟩
  obtain⟨Ab,nb,kb,rfl⟩:∃A n c,vb= .slice A n c:=by obtain⟨A,c,h, -⟩:=hy;exact⟨A,_,c,h⟩
  obtain⟨A,n,c,rfl,hn, -⟩:=hT.slice;have hne:=B9 e;have hkl:=Bh e.kids;have HTB:=S9 (fun w' (g:A5 w w')=>SC (hwt.grew g) (hot.keep g (fun h=>h)));have HIH:=S9 (fun(e':Ex) (w':World) (cs:List Value) (gw:A5 w w') (h0:B0≤w'.heap.size) (h1:e'∈e.kids) (h2:BZ w' B0 e' cs)=>ID k e' (by have:=Aa h1;omega) (by omega) (hok.kid h1) w' B0 cs (hwt.grew gw) (hot.keep gw (fun h=>h)) h0 h2);have HT:=S9 hT;have HN:=S9 hn;have HKN:=S9 (SC hk hk2);have HMY:=S9 (SC hm hy);have HOK:=S9 hok;have HB0:=S9 hB0;have hnb:n≤1000000:=by omega
  obtain⟨hb1,hb2,hG⟩:=Bz w 29 29 (AE e (.slice Am nm km) (.slice Ab nb kb) (.slice A n c)).toArray (AH 0 0).toArray;have hs2:((w.alloc (.cells (AE e (.slice Am nm km) (.slice Ab nb kb) (.slice A n c)).toArray 29)).alloc (.cells (AH 0 0).toArray 29)).heap.size=w.heap.size+2:=by simp
  clear hr hm hy hT hn hne hkl hk hk2 hok hB0 hwt hot;go_enter Tryz.func29,Tryz.ntmps29;go_upto_region 1 with fail;change Code.wp _ _ _ _ ((w.alloc (.cells (AE e (.slice Am nm km) (.slice Ab nb kb) (.slice A n c)).toArray 29)).alloc (.cells (AH 0 0).toArray 29));generalize (w.alloc (.cells (AE e (.slice Am nm km) (.slice Ab nb kb) (.slice A n c)).toArray 29)).alloc (.cells (AH 0 0).toArray 29)=w1 at*;have HS:=S9 hs2;clear hs2;go_upto_region 2 with(first|((with_reducible refine AF 106 (.tmp 5) (.tmp 19) rfl ?_);refine Ar 106 (.tmp 5) (.tmp 19) (w1.heap.size) [.func (.func 56) #[] #[],.func (.func 57) #[] #[],.func (.func 58) #[] #[],.func (.func 59) #[] #[],.func (.func 60) #[] #[],.func (.func 61) #[] #[]] [.nilFunc,.nilFunc,.nilFunc,.nilFunc,.nilFunc,.nilFunc] 106 Ok rfl (by intro v hv;simp at hv;rcases hv with rfl|rfl|rfl|rfl|rfl|rfl<;>rfl) rfl rfl rfl rfl (Sc w1 106 _) ?_;intro w2 hb5 k5 d5;have g2:A5 w1 w2:=Sb ((Sa w1).alloc _) k5 (fun i hi e=>by omega)));have c10:w2.cell? ⟨w.heap.size,10,none⟩=some (.slice A n c):=(hb1.grew g2).cell 10;go_upto_region 3 with(first|((with_reducible refine Jo 27 (.const (.int .i64 0)) (.tmp 22) rfl ?_);refine Lv rfl (.const (.int .i64 0)) (.tmp 22) rfl n rfl rfl hnb ?_;intro w3 hM3 g3));have HB:=S9 (SC (hb1.grew (g2.trans g3)) (SC (hb2.grew (g2.trans g3)) (SC (hb5.grew g3) (hG.trans (g2.trans g3)))));have HM3:=S9 hM3;have HSZ:=S9 (show w.heap.size+2≤w1.heap.size∧w1.heap.size<w2.heap.size∧w2.heap.size≤w3.heap.size from⟨by have:=HS.out;omega,hb5.lt,g3.size⟩);clear hb1 hb2 hb5 hG g2 g3 hM3 c10 k5 d5;have c10:w3.cell? ⟨w.heap.size,10,none⟩=some (.slice A n c):=HB.out.1.cell 10;generalize w2.heap.size=M at*;go_wp2_with fail;go_loopw [6,8,27] (fun s _ i wr=>∃(j:Nat) (rows:List (List Value)),j≤n∧i= .int .i64 (j:Nat)∧BJ wr M 29 11 s rows∧CL wr (J6 B0 M s wr.heap.size) ((e.kids.take j).map Ah) rows∧AC (fun i=>M≤i) w3 wr) (fun _ _ i _=>n-(intOf i).toNat)
  case atStart=>exact⟨0,[],by omega,rfl,HM3.out,by simpa using CL.nil _ _,Se _ _⟩
  case round=>
   obtain⟨j,rows,hj,rfl,hM,hTr,hGr⟩:=hrel;obtain⟨As,ns,ks,rfl,hns, -⟩:=hM.slice;have HM:=S9 hM;have HTr:=S9 hTr;have HNS:=S9 hns;have HGr:=S9 hGr;clear hM hTr hns hGr;by_cases hlt:j<n
   ·have hjl:j<e.kids.length:=by rw[←HN.out];exact hlt
    obtain⟨e',he'⟩:∃e',e.kids[j]? =some e':=⟨_,SF hjl⟩;have hmem:e'∈e.kids:=SN he';have hgw:A5 w wr:=Sb HB.out.2.2.2 HGr.out fun i hi (e:M≤i)=>by have:=HSZ.out;omega
    have hTw:I1 wr B0 (.slice A n c) e.kids:=HT.out.keep HB0.out (SD _) hgw (fun _ _ h=>h);obtain⟨b,o,cs,rfl,hb,hrg,hre⟩:=hTw.at_ he';obtain⟨vm',vb',vk',hcs,hm',hy',hT'⟩:=hre.open_;subst hcs;obtain⟨A1,n1,c1,rfl⟩:∃A n c,vm'= .slice A n c:=by obtain⟨A,c,h, -⟩:=hm';exact⟨A,_,c,h⟩
    obtain⟨A2,n2,c2,rfl⟩:∃A n c,vb'= .slice A n c:=by obtain⟨A,c,h, -⟩:=hy';exact⟨A,_,c,h⟩
    obtain⟨A3,n3,c3,rfl, -⟩:=hT'.slice;have hsw:M≤wr.heap.size:=by have:=HGr.out.size;have:=HSZ.out;omega
    have HI:=S9 (fun w' (g:A5 wr w')=>HIH.out e' w' _ (hgw.trans g) (by have:=HB0.out;have:=HSZ.out;have:=g.size;omega) hmem (BZ.keep (by have:=HB0.out;have:=HSZ.out;omega) (SD _) g (fun _ _ h=>h) e' _ hre));have HE:=S9 he';have HRg:=S9 hrg;have HSW:=S9 hsw;clear hjl he' hmem hTw hrg hre hm' hy' hT' hsw hgw;go_wp2_with(first|((with_reducible refine AG 29 (.tmp 29) rfl ?_);refine wpList_load_mid rfl 29 (.tmp 29) rfl b (o+j*11) rfl (AE e' (.slice A1 n1 c1) (.slice A2 n2 c2) (.slice A3 n3 c3)) _ HRg.out Tryz.underlying29 rfl AD ?_)|((with_reducible refine AF 29 (.tmp 8) (.tmp 30) rfl ?_);refine Ar 29 (.tmp 8) (.tmp 30) (wr.heap.size) (AE e' (.slice A1 n1 c1) (.slice A2 n2 c2) (.slice A3 n3 c3)) (AH 0 0) 29 AD rfl (Ay _ _ _ _ _ _ _ _ _ _) rfl rfl rfl rfl (Sc wr 29 _) ?_;intro w5 hb5 k5 d5;have g5:A5 wr w5:=Sb ((Sa wr).alloc _) k5 (fun i hi e=>by omega))|((with_reducible refine AG 29 (.tmp 8) rfl ?_);refine BR 29 Tryz.underlying29 rfl (.tmp 8) (wr.heap.size) (AE e' (.slice A1 n1 c1) (.slice A2 n2 c2) (.slice A3 n3 c3)) 29 AD rfl rfl rfl hb5 ?_));refine(HI.out _ g5).mono ?_;rintro e2 w6 ⟨cs3,rfl,hr3,k3⟩;obtain⟨vm3,vb3,vk3,rfl,hm3,hy3,hT3⟩:=hr3.open_;obtain⟨Am3,nm3,km3,rfl, -⟩:=hm3.slice;obtain⟨Ab3,nb3,kb3,rfl, -⟩:=hy3.slice;obtain⟨A3',n3',c3',rfl, -⟩:=hT3.slice;have HR3:=S9 (AW.two_le (M':=wr.heap.size) hr3 g5.size);have HK3:=S9 (g5.trans k3);have hl3:=Ck (Ah e') (.slice Am3 nm3 km3) (.slice Ab3 nb3 kb3) (.slice A3' n3' c3');clear k3 HI hr3 hm3 hy3 hT3 g5 hb5 k5 d5;go_wp2_with(at_builtin;refine J0 rfl (.tmp 31) (.tmp 35) rfl rfl rfl (SD _) HM.out HTr.out (by have:=HB0.out;have:=HSZ.out;omega) HSW.out HK3.out HR3.out (by rw[List.length_map,List.length_take];omega) ?_;intro A6 n6 c6 w7 H6);go_wp2_with fail;go_roundw
    case rel=>
     obtain⟨rows6,hM6,hT6,hG6⟩:=H6.out;have hes:(e.kids.take j).map Ah++[Ah e']=(e.kids.take (j+1)).map Ah:=by rw[List.take_add_one,HE.out];simp
     rw[hes]at hT6;exact⟨j+1,_,by omega,by go_num,hM6,hT6,AC.trans HGr.out hG6⟩
    case measure=>simp[intOf];omega
   obtain rfl:j=n:=by omega
   have hes:(e.kids.take j).map Ah=e.kids.map Ah:=by rw[List.take_of_length_le (by rw[←HN.out];exact SD _)]
   have hTr:=HTr.out;have hM:=HM.out;rw[hes]at hTr;have hm1:=hM.lt;have hTQ:DH wr (CW B0 M wr.heap.size) (.slice As ns ks) (e.kids.map Ah):=hM.treesQ hTr.1 (fun b hb=>⟨.inr (hm1 b hb).1,(hm1 b hb).2⟩) fun i e' cs h1 h2=>AW.keep (S:=fun _=>False) (fun b hb=>⟨hb.2.1,fun h=>h,hb.1,hb.2.1⟩) (Sa wr) e' cs (hTr.2 i e' cs h1 h2)
   have hsz:=HSZ.out;have hbr:=HB.out.1.keep HGr.out (by omega);have hb2:=HB.out.2.1.keep HGr.out (by omega);have hb5:=HB.out.2.2.1.keep HGr.out (by omega);have hgw:A5 w wr:=Sb HB.out.2.2.2 HGr.out fun i hi (e:M≤i)=>by omega
   have f10:=hbr.frozen 10;have hb4:Ag (wr.setCell ⟨w.heap.size,10,none⟩ (.slice As ns ks)) w.heap.size 29 ((AE e (.slice Am nm km) (.slice Ab nb kb) (.slice As ns ks))).toArray:=hbr.set_ 10 (.slice As ns ks);have k4:AC (fun i=>i=w.heap.size) wr (wr.setCell ⟨w.heap.size,10,none⟩ (.slice As ns ks)):=Sf (S:=fun i=>i=w.heap.size) (p:=⟨w.heap.size,10,none⟩) (Se _ wr) (.inl rfl) _;have hsz4:(wr.setCell ⟨w.heap.size,10,none⟩ (.slice As ns ks)).heap.size=wr.heap.size:=by simp
   have HNs:=S9 (show ns=e.kids.length by have:=hTr.1;rw[List.length_map]at this;rw[HNS.out,this]);have HTQ:=S9 hTQ;have HE4:=S9 (SC hb4 (SC (hb2.far (p:=⟨w.heap.size,10,none⟩) (by simp) (.slice As ns ks)) (SC (hb5.far (p:=⟨w.heap.size,10,none⟩) (by simp;omega) (.slice As ns ks)) (SC k4 (SC hsz4 (SC hgw HGr.out.size))))));have c10':wr.cell? ⟨w.heap.size,10,none⟩=some (.slice A j c):=hbr.cell 10;clear hTQ hbr hb2 hb5 hgw hb4 k4 hsz4 hM hTr HM HTr HNS hes hm1 hsz c10;go_upto_region 9 with fail;generalize wr.setCell ⟨w.heap.size,10,none⟩ (.slice As ns ks)=w4 at*;obtain⟨hb4,hb2,hb5,k4,hsz4,hgw,hw1⟩:=HE4.out;have hsz:=HSZ.out;have hB0:=HB0.out;have hTQ4:DH w4 (CW B0 M wr.heap.size) (.slice As ns ks) (e.kids.map Ah):=HTQ.out.keep (S:=fun i=>i=w.heap.size) (fun b hb=>⟨hb.2,fun h=>by rcases hb.1 with h1|h1<;>omega,hb⟩) k4;have hgw4:A5 w w4:=Sb hgw k4 fun i hi e=>by omega
   have hMY4:Ch w4 B0 3 (.slice Am nm km) (e.ms.map Au)∧Ch w4 B0 1 (.slice Ab nb kb) (e.bys.map fun s=>[Value.string s]):=⟨HMY.out.1.keep hB0 (SD _) hgw4 (fun _ _ h=>h),HMY.out.2.keep hB0 (SD _) hgw4 (fun _ _ h=>h)⟩;have hE4:∀w',A5 w4 w'→AW w' (CW B0 M w'.heap.size) (e.withKids (e.kids.map Ah)) (AE e (.slice Am nm km) (.slice Ab nb kb) (.slice As ns ks)):=fun w' g=>by
    have hsz:=g.size;have h1:=AW.mk_ (e:=e.withKids (e.kids.map Ah)) (Q:=CW B0 M w'.heap.size) (w:=w') (vm:= .slice Am nm km) (vb:= .slice Ab nb kb) (vk:= .slice As ns ks) (by rw[JF];exact(hMY4.1.keep (by omega) (SD _) g (fun _ _ h=>h)).toQ fun b hb=>⟨.inl hb,by omega⟩) (by rw[Gm];exact(hMY4.2.keep (by omega) (SD _) g (fun _ _ h=>h)).toQ fun b hb=>⟨.inl hb,by omega⟩) (by rw[Bl];exact hTQ4.keep (fun b hb=>⟨by have:=hb.2;omega,fun h=>h,hb.1,by have:=hb.2;omega⟩) g);rwa[I8]at h1
   have HRES:=S9 hE4;have hM2:w.heap.size+2≤M:=by omega
   have HFIN:=S9 (fun(w5 w8:World) (e5:Ex) (cs:List Value) (k8:AC (fun i=>i=w.heap.size+1) w5 w8) (h:AW w5 (CW B0 M w5.heap.size) e5 cs)=>De k8 hB0 hM2 h);have c0:w4.cell? ⟨w.heap.size,0,none⟩=some (.int .i64 e.kind):=hb4.cell 0;by_cases h3:e.kind=3
   ·have t1:(e.kind==3)=true:=by simpa using h3
    have hok:=HOK.out;have hp:=hok.top.1.2 h3;obtain⟨ea,eb,hks,hoka,hokb,hnn⟩:=hok.two h3;have hsa:=F5 (AL ea) ea (SD _) hoka;have hsb:=F5 (AL eb) eb (SD _) hokb;have hkn:=HKN.out;have hF6:Ah e=(DE e.fn (Ah ea) (Ah eb)).getD (e.withKids (e.kids.map Ah)):=by
     rw[F4,Gz (a:=Ah ea) (b:=Ah eb) (by rw[Bl,hks];rfl) (by rw[CC];exact h3),IC]
    obtain rfl:ns=2:=by rw[HNs.out,hks];rfl
    have hks2:e.kids.map Ah=[Ah ea,Ah eb]:=by rw[hks];rfl
    rw[hks2,←hsz4]at hTQ4;obtain⟨b,o,cc,csa,csb,hsl,hbq,hra,hrb,hea,heb⟩:=JQ hTQ4 rfl;obtain⟨rfl, -,rfl⟩:As=some ⟨b,o,none⟩∧(2:Nat)=2∧ks=cc:=by simpa using hsl
    have hM4:M≤w4.heap.size:=by omega
    have hq4:∀b,CW B0 M w4.heap.size b→b<w4.heap.size:=fun b hb=>hb.2
    have HROW:=S9 (show ∀w',A5 w4 w'→w'.rangeAt b o csa∧w'.rangeAt b (o+11) csb from fun w' g=>⟨Ao hra (hq4 _ hbq) g (fun h=>h),Ao hrb (hq4 _ hbq) g (fun h=>h)⟩);have HRU:=S9 (fun(m:Nat) (hm:m<6) w' (g:A5 w4 w')=>OT hm ⟨hp.2.1,hp.2.2⟩ hsa.1 hsb.1 (by omega) (by omega) (HTB.out _ (hgw4.trans g)).1 (HTB.out _ (hgw4.trans g)).2 (fun b hb=>SE (hq4 b hb) g.size) (hea.grewQ hq4 g) (heb.grewQ hq4 g));have HLL:=S9 (SC hea.len heb.len);have HB5:=S9 (show ∀w',A5 w4 w'→Ag w' w1.heap.size 106 ([.func (.func 56) #[] #[],.func (.func 57) #[] #[],.func (.func 58) #[] #[],.func (.func 59) #[] #[],.func (.func 60) #[] #[],.func (.func 61) #[] #[]]:List Value).toArray from fun w' g=>hb5.grew g);have HB24:=S9 (SC hb4 (SC hb2 hgw4));have HM4:=S9 hM4;have HSZ4:=S9 hsz4;have HB0W:=S9 (show B0≤w.heap.size from hB0);have HF6:=S9 hF6;clear hE4 hTQ4 hMY4 h3 hB0 hsz4 hgw k4 hF6 hp hoka hokb hnn hsa hsb hkn hks hks2 hra hrb hea heb hbq hsz hw1 hM2 hb5 hb4 hb2 hgw4 hok hM4 hq4 hsl;have HFN:=S9 (show ∀w',A5 w4 w'→w'.cell? ⟨w.heap.size,1,none⟩=some (.int .i64 e.fn)from fun w' g=>(HB24.out.1.grew g).cell 1);generalize Ah ea=a at*;generalize Ah eb=b' at*;generalize e.fn=fnv at*;go_wp2_with fail;go_loopw [10,11,12,46] (fun _ _ _ i wr=>∃m:Nat,i= .int .i64 (m:Nat)∧m≤6∧(∀k,k<m→Bi k fnv a b'=none)∧A5 w4 wr) (fun _ _ _ i _=>6-(intOf i).toNat)
    case atStart=>exact⟨0,rfl,by omega,fun k hk=>by omega,Sa _⟩
    case round=>
     obtain⟨m,rfl,hm,hnone,hg⟩:=hrel;have HGX:=S9 hg;have HNO:=S9 hnone;have b4:=HB24.out.1.grew hg;have b2:=HB24.out.2.1.grew hg;by_cases hlt:m<6
     ·have hcell:(([.func (.func 56) #[] #[],.func (.func 57) #[] #[],.func (.func 58) #[] #[],.func (.func 59) #[] #[],.func (.func 60) #[] #[],.func (.func 61) #[] #[]]:List Value).toArray)[m]? =some (.func (.func (LY m)) #[] #[]):=by
       rcases m with _|_|_|_|_|_|m<;>first|rfl|omega
      have HAP0:=S9 (HRU.out m hlt);obtain⟨F,hF⟩:∃F,LY m=F:=⟨_,rfl⟩;obtain⟨ok,hok⟩:∃ok,(Bi m fnv a b').isSome=ok:=⟨_,rfl⟩;have HAP:=S9 (show ∀w',A5 w4 w'→Calls Tryz.prog F #[.int .i64 fnv,.agg csa.toArray,.agg csb.toArray] w' fun e' w''=>∃cs,e'= .returned (.tuple #[.agg cs.toArray,.bool ok])∧cs.length=11∧(∀v∈cs,v.oneCell'=true)∧(∀t,Bi m fnv a b'=some t→AW w'' (fun b=>CW B0 M w4.heap.size b∨(w'.heap.size≤b∧b<w''.heap.size)) t cs)∧A5 w' w'' from fun w' g=>by
       rw[←hF,←hok];exact HAP0.out w' g)
      have HOK2:=S9 hok;have HRN:=S9 (show ∀w',(callFunc F #[.int .i64 fnv,.agg csa.toArray,.agg csb.toArray]).run Tryz.prog w'= .ok (.enter F #[.int .i64 fnv,.agg csa.toArray,.agg csb.toArray]) w' from fun w'=>by rw[←hF];exact Nj hlt _ w');rw[hF]at hcell;have r0:wr.rangeAt w1.heap.size m [.func (.func F) #[] #[]]:=fun j u hu=>by
       rcases j with _|j
       ·obtain rfl:Value.func (.func F) #[] #[]=u:=by simpa using hu
        exact((HB5.out wr hg).cell m).trans hcell
       simp at hu
      have r0c:wr.cell? ⟨w1.heap.size,m,none⟩=some (.func (.func F) #[] #[]):=((HB5.out wr hg).cell m).trans hcell;clear hg hnone hF hok hcell HAP0;go_upto_region 13 with(first|((with_reducible refine AG 105 (.tmp 48) rfl ?_);refine wpList_load_mid rfl 105 (.tmp 48) rfl (w1.heap.size) m rfl [.func (.func F) #[] #[]] _ r0 Tryz.underlying105 rfl Lq ?_)|((with_reducible refine AF 105 (.tmp 10) (.tmp 49) rfl ?_);refine Ar 105 (.tmp 10) (.tmp 49) (wr.heap.size) [.func (.func F) #[] #[]] [.nilFunc] 105 Lq rfl (by intro v hv;simp at hv;subst hv;rfl) rfl rfl rfl rfl (Sc wr 105 _) ?_;intro w7 hb10 k10 d10;have g7:A5 wr w7:=Sb ((Sa wr).alloc _) k10 (fun i hi e=>by omega)));have h7:A5 w4 w7:=HGX.out.trans g7;have HA:=S9 (show ∀w',A5 w7.drew w'→A5 w7 w'∧w'.cell? ⟨wr.heap.size,0,none⟩=some (.func (.func F) #[] #[])∧w'.cell? ⟨w.heap.size,1,none⟩=some (.int .i64 fnv)∧w'.rangeAt b o csa∧w'.rangeAt b (o+11) csb from fun w' g=>by
       have gg:A5 w7 w':=(Sd (Sa w7)).trans g;exact⟨gg,(hb10.grew gg).cell 0,HFN.out w' (h7.trans gg),HROW.out w' (h7.trans gg)⟩)
      have b27:=b2.grew g7;have HB7:=S9 (SC b27 (SC h7 (show M≤w7.heap.size by have:=HM4.out;have:=h7.size;omega)));clear b4 b2 b27 h7 g7 hb10 k10 d10 r0 r0c;generalize wr.heap.size=z10 at*;dsimp only[Act.put];refine B8 [(15,fun w'=>A5 w7.drew w')] (by kernel_rfl) (by intro pp hp;obtain rfl:=SJ.1 hp;exact Sa _) ?_;intro hcl hkn
      refine' B1 (i:=0) (v:=_) rfl (by kernel_rfl) (by kernel_rfl) (by kernel_rfl) hcl hkn (by rfl) (fun _ _ _ h=>h) rfl ?_ ?_
      rotate_left
      ·intro w';go_simp;try with_reducible rfl
      clear hcl hkn;intro hcl hkn
      try simp only[Bn]
      refine' D7 15 _ (i:=1) (v:=_) rfl (by kernel_rfl) (by kernel_rfl) (by kernel_rfl) hcl hkn (by rfl) 0 rfl (by kernel_rfl) (fun _ _ _ h=>h) rfl ?_ ?_
      rotate_left
      ·rintro w' hA;have hc9:=(HA.out _ hA).2.1;go_simp;try with_reducible rfl
      clear hcl hkn;intro hcl hkn
      try simp only[Bn]
      refine' B1 (i:=2) (v:=_) rfl (by kernel_rfl) (by kernel_rfl) (by kernel_rfl) hcl hkn (by rfl) (fun _ _ _ h=>h) rfl ?_ ?_
      rotate_left
      ·intro w';go_simp;try with_reducible rfl
      clear hcl hkn;intro hcl hkn
      try simp only[Bn]
      refine' D7 15 _ (i:=3) (v:=_) rfl (by kernel_rfl) (by kernel_rfl) (by kernel_rfl) hcl hkn (by rfl) 0 rfl (by kernel_rfl) (fun _ _ _ h=>h) rfl ?_ ?_
      rotate_left
      ·rintro w' hA;have hc9:=(HA.out _ hA).2.2.1;go_simp;try with_reducible rfl
      clear hcl hkn;intro hcl hkn
      try simp only[Bn]
      refine' B1 (i:=4) (v:=_) rfl (by kernel_rfl) (by kernel_rfl) (by kernel_rfl) hcl hkn (by rfl) (fun _ _ _ h=>h) rfl ?_ ?_
      rotate_left
      ·intro w';go_simp;try with_reducible rfl
      clear hcl hkn;intro hcl hkn
      try simp only[Bn]
      refine' B1 (i:=5) (v:=_) rfl (by kernel_rfl) (by kernel_rfl) (by kernel_rfl) hcl hkn (by rfl) (fun _ _ _ h=>h) rfl ?_ ?_
      rotate_left
      ·intro w';go_simp;try with_reducible rfl
      clear hcl hkn;intro hcl hkn
      try simp only[Bn]
      refine Ae 15 _ (i:=6) rfl (by kernel_rfl) (by kernel_rfl) (by kernel_rfl) hcl hkn (by rfl) 0 rfl (by kernel_rfl) 29 (.tmp 56) rfl b (o) rfl csa _ (fun w h=>(HA.out w h).2.2.2.1) Tryz.underlying29 rfl (by rw[HLL.out.1];exact AD) (fun _ _ _ h=>h) rfl ?_;clear hcl hkn;intro hcl hkn
      try simp only[Bn]
      refine' B1 (i:=7) (v:=_) rfl (by kernel_rfl) (by kernel_rfl) (by kernel_rfl) hcl hkn (by rfl) (fun _ _ _ h=>h) rfl ?_ ?_
      rotate_left
      ·intro w';go_simp;try with_reducible rfl
      clear hcl hkn;intro hcl hkn
      try simp only[Bn]
      refine' B1 (i:=8) (v:=_) rfl (by kernel_rfl) (by kernel_rfl) (by kernel_rfl) hcl hkn (by rfl) (fun _ _ _ h=>h) rfl ?_ ?_
      rotate_left
      ·intro w';go_simp;try with_reducible rfl
      clear hcl hkn;intro hcl hkn
      try simp only[Bn]
      refine Ae 15 _ (i:=9) rfl (by kernel_rfl) (by kernel_rfl) (by kernel_rfl) hcl hkn (by rfl) 0 rfl (by kernel_rfl) 29 (.tmp 59) rfl b ((o+11)) rfl csb _ (fun w h=>(HA.out w h).2.2.2.2) Tryz.underlying29 rfl (by rw[HLL.out.2];exact AD) (fun _ _ _ h=>h) rfl ?_;clear hcl hkn;intro hcl hkn
      try simp only[Bn]
      have g77:A5 w7 w7.drew:=Sd (Sa w7);refine Nn (i:=10) (j:=14) hcl (by kernel_rfl) rfl rfl rfl rfl (fun K hK=>?_) (fun K hK=>?_)
      ·go_simp;rw[HRN.out];show Calls _ _ _ _ _;(with_reducible refine(HAP.out _ (HB7.out.2.1.trans g77)).mono ?_);rintro e3 wq ⟨cs,rfl,hlc,hoc,htc,gq⟩;refine hK _ _ (AJ (.inr gq)) ?_;clear hK K;clear hcl hkn;intro hcl hkn
       try simp only[Bn]
       refine' B1 (i:=11) (v:=_) rfl (by kernel_rfl) (by kernel_rfl) (by kernel_rfl) hcl hkn (by rfl) (fun _ _ _ h=>h) rfl ?_ ?_
       rotate_left
       ·intro w';go_simp;try with_reducible rfl
       clear hcl hkn;intro hcl hkn
       try simp only[Bn]
       refine' B1 (i:=12) (v:=_) rfl (by kernel_rfl) (by kernel_rfl) (by kernel_rfl) hcl hkn (by rfl) (fun _ _ _ h=>h) rfl ?_ ?_
       rotate_left
       ·intro w';go_simp;try with_reducible rfl
       clear hcl hkn;intro hcl hkn
       try simp only[Bn]
       refine' B1 (i:=13) (v:=_) rfl (by kernel_rfl) (by kernel_rfl) (by kernel_rfl) hcl hkn (by rfl) (fun _ _ _ h=>h) rfl ?_ ?_
       rotate_left
       ·intro w';go_simp;try with_reducible rfl
       clear hcl hkn;intro hcl hkn
       try simp only[Bn]
       refine AV hcl (i:=14) (by kernel_rfl) rfl rfl (fun K hK=>?_);go_simp;refine hK _ _ (AJ (.inr (gq.alloc _))) ?_;clear hK K;clear hcl hkn;intro hcl hkn
       try simp only[Bn]
       have hb11:=Sc wq 29 (AH 0 0).toArray;refine AV hcl (i:=15) (by kernel_rfl) rfl rfl (fun K hK=>?_);refine Bw 29 (.tmp 11) (.tmp 62) (wq.heap.size) cs (AH 0 0) 29 (by rw[hlc];exact AD) (by rw[hlc];rfl) hoc rfl rfl rfl hb11 ?_;intro w12 hb12 k12;refine hK _ _ (AJ (.inl (by kernel_rfl))) ?_;clear hK K;clear hcl hkn;intro hcl hkn
       try simp only[Bn]
       refine' B1 (i:=16) (v:=_) rfl (by kernel_rfl) (by kernel_rfl) (by kernel_rfl) hcl hkn (by rfl) (fun _ _ _ h=>h) rfl ?_ ?_
       rotate_left
       ·intro w';go_simp;try with_reducible rfl
       clear hcl hkn;intro hcl hkn
       try simp only[Bn]
       refine BK (by kernel_rfl) ?_ _;have hs7:=gq.size;have hs4:=HB7.out.2.1.size;have hsd:w7.drew.heap.size=w7.heap.size:=rfl;have hsM:=HM4.out;have g12:A5 wq w12:=Sb ((Sa wq).alloc _) k12 fun i hi e=>by omega
       have hs12:=g12.size;have g712:A5 w7 w12:=g77.trans (gq.trans g12);have HRD:=S9 (show ∀t,Bi m fnv a b'=some t→AW w12 (CW B0 M w12.heap.size) t cs from fun t ht=>AW.keep (S:=fun _=>False) (fun b hb=>by rcases hb with hb|hb;exact⟨by have:=hb.2;omega,fun h=>h,hb.1,by have:=hb.2;omega⟩;exact⟨hb.2,fun h=>h,.inr (by omega),by omega⟩) g12 t cs (htc t ht));have b2z:=HB7.out.1.grew g712;have HGZ:=S9 (HB7.out.2.1.trans g712);clear htc gq g12 g712 k12 hb11 hs7 hs4 hsd hsM hs12;generalize wq.heap.size=z at*;clear hcl hkn HA;rcases ok with _|_
       ·have HN1:=S9 (show Bi m fnv a b'=none by have:=HOK2.out;simpa using this);go_wp2_with fail;go_roundw
        case rel=>
         refine⟨m+1,by go_num,by omega,fun k hk=>?_,HGZ.out⟩;rcases Nat.lt_succ_iff_lt_or_eq.1 hk with h|rfl
         ·exact HNO.out k h
         exact HN1.out
        case measure=>simp[intOf];omega
       obtain⟨t,ht⟩:=Option.isSome_iff_exists.1 HOK2.out;have HT1:=S9 ht;clear ht;go_wp2_with(first|((with_reducible refine AG 29 (.tmp 11) rfl ?_);refine BR 29 Tryz.underlying29 rfl (.tmp 11) z cs 29 (by rw[hlc];exact AD) rfl rfl rfl hb12 ?_)|((with_reducible refine AF 29 (.tmp 4) (.tmp 65) rfl ?_);refine Ar 29 (.tmp 4) (.tmp 65) (w.heap.size+1) cs (AH 0 0) 29 (by rw[hlc];exact AD) (by rw[hlc];rfl) hoc rfl rfl rfl rfl b2z ?_;intro w8 hb8 k8 d8));refine bodyPost_ret (AP rfl rfl (by rw[hlc];exact AD) Tryz.underlying29 rfl hb8) rfl ?_;refine⟨cs,rfl,?_,Sb (HB24.out.2.2.trans HGZ.out) k8 (fun i hi e=>by omega)⟩;rw[HF6.out,Fw hlt HNO.out HT1.out];exact HFIN.out w12 w8 t cs k8 (HRD.out t HT1.out)
      go_simp;obtain⟨w11,hw11⟩:∃w11,w11=w7.drew.alloc (.cells (AH 0 0).toArray 29):=⟨_,rfl⟩;have hb11:Ag w11 w7.heap.size 29 (AH 0 0).toArray:=by rw[hw11];exact Sc w7.drew 29 _
      have ga:A5 w7.drew w11:=by rw[hw11];exact(Sa _).alloc _
      have hsa:w11.heap.size=w7.heap.size+1:=by rw[hw11];simp
      change K _ (w7.drew.alloc (.cells (AH 0 0).toArray 29));rw[←hw11];clear hw11;refine hK _ _ (AJ (.inr ga)) ?_;clear hK K;clear hcl hkn;intro hcl hkn
      try simp only[Bn]
      refine AV hcl (i:=10) (by kernel_rfl) rfl rfl (fun K hK=>?_);go_simp;rw[HRN.out];show Calls _ _ _ _ _;(with_reducible refine(HAP.out _ ((HB7.out.2.1.trans g77).trans ga)).mono ?_);rintro e3 wq ⟨cs,rfl,hlc,hoc,htc,gq⟩;refine hK _ _ (AJ (.inr (ga.trans gq))) ?_;clear hK K;clear hcl hkn;intro hcl hkn
      try simp only[Bn]
      refine' B1 (i:=11) (v:=_) rfl (by kernel_rfl) (by kernel_rfl) (by kernel_rfl) hcl hkn (by rfl) (fun _ _ _ h=>h) rfl ?_ ?_
      rotate_left
      ·intro w';go_simp;try with_reducible rfl
      clear hcl hkn;intro hcl hkn
      try simp only[Bn]
      refine' B1 (i:=12) (v:=_) rfl (by kernel_rfl) (by kernel_rfl) (by kernel_rfl) hcl hkn (by rfl) (fun _ _ _ h=>h) rfl ?_ ?_
      rotate_left
      ·intro w';go_simp;try with_reducible rfl
      clear hcl hkn;intro hcl hkn
      try simp only[Bn]
      refine' B1 (i:=13) (v:=_) rfl (by kernel_rfl) (by kernel_rfl) (by kernel_rfl) hcl hkn (by rfl) (fun _ _ _ h=>h) rfl ?_ ?_
      rotate_left
      ·intro w';go_simp;try with_reducible rfl
      clear hcl hkn;intro hcl hkn
      try simp only[Bn]
      have hb11q:=hb11.grew gq;refine AV hcl (i:=15) (by kernel_rfl) rfl rfl (fun K hK=>?_);refine Bw 29 (.tmp 11) (.tmp 62) (w7.heap.size) cs (AH 0 0) 29 (by rw[hlc];exact AD) (by rw[hlc];rfl) hoc rfl rfl rfl hb11q ?_;intro w12 hb12 k12;refine hK _ _ (AJ (.inl (by kernel_rfl))) ?_;clear hK K;clear hcl hkn;intro hcl hkn
      try simp only[Bn]
      refine' B1 (i:=16) (v:=_) rfl (by kernel_rfl) (by kernel_rfl) (by kernel_rfl) hcl hkn (by rfl) (fun _ _ _ h=>h) rfl ?_ ?_
      rotate_left
      ·intro w';go_simp;try with_reducible rfl
      clear hcl hkn;intro hcl hkn
      try simp only[Bn]
      refine BK (by kernel_rfl) ?_ _;have hs7:=gq.size;have hs4:=HB7.out.2.1.size;have hsd:w7.drew.heap.size=w7.heap.size:=rfl;have hsM:=HM4.out;have hs12:=k12.size;have g712:A5 w7 w12:=Sb (g77.trans (ga.trans gq)) k12 fun i hi e=>by omega
      have htc':∀t,Bi m fnv a b'=some t→AW wq (fun b=>CW B0 M w4.heap.size b∨(w7.heap.size+1≤b∧b<wq.heap.size)) t cs:=by rw[←hsa];exact htc
      have hs7':w7.heap.size+1≤wq.heap.size:=by rw[←hsa];exact hs7
      have HRD:=S9 (show ∀t,Bi m fnv a b'=some t→AW w12 (CW B0 M w12.heap.size) t cs from fun t ht=>AW.keep (S:=fun i=>i=w7.heap.size) (fun b hb=>by rcases hb with hb|hb;exact⟨by have:=hb.2;omega,fun h=>by have:=hb.2;omega,hb.1,by have:=hb.2;omega⟩;exact⟨hb.2,fun h=>by omega,.inr (by omega),by omega⟩) k12 t cs (htc' t ht));have b2z:=HB7.out.1.grew g712;have HGZ:=S9 (HB7.out.2.1.trans g712);clear htc htc' gq ga g712 k12 hb11 hb11q hs7 hs7' hs4 hsd hsM hs12 hsa;generalize w7.heap.size=z at*;clear hcl hkn HA;rcases ok with _|_
      ·have HN1:=S9 (show Bi m fnv a b'=none by have:=HOK2.out;simpa using this);go_wp2_with fail;go_roundw
       case rel=>
        refine⟨m+1,by go_num,by omega,fun k hk=>?_,HGZ.out⟩;rcases Nat.lt_succ_iff_lt_or_eq.1 hk with h|rfl
        ·exact HNO.out k h
        exact HN1.out
       case measure=>simp[intOf];omega
      obtain⟨t,ht⟩:=Option.isSome_iff_exists.1 HOK2.out;have HT1:=S9 ht;clear ht;go_wp2_with(first|((with_reducible refine AG 29 (.tmp 11) rfl ?_);refine BR 29 Tryz.underlying29 rfl (.tmp 11) z cs 29 (by rw[hlc];exact AD) rfl rfl rfl hb12 ?_)|((with_reducible refine AF 29 (.tmp 4) (.tmp 65) rfl ?_);refine Ar 29 (.tmp 4) (.tmp 65) (w.heap.size+1) cs (AH 0 0) 29 (by rw[hlc];exact AD) (by rw[hlc];rfl) hoc rfl rfl rfl rfl b2z ?_;intro w8 hb8 k8 d8));refine bodyPost_ret (AP rfl rfl (by rw[hlc];exact AD) Tryz.underlying29 rfl hb8) rfl ?_;refine⟨cs,rfl,?_,Sb (HB24.out.2.2.trans HGZ.out) k8 (fun i hi e=>by omega)⟩;rw[HF6.out,Fw hlt HNO.out HT1.out];exact HFIN.out w12 w8 t cs k8 (HRD.out t HT1.out)
     obtain rfl:m=6:=by omega
     have HF:=S9 (show Ah e=e.withKids (e.kids.map Ah) by rw[HF6.out,Fz HNO.out];rfl);clear hg hnone;go_wp2_with(first|((with_reducible refine AG 29 (.tmp 2) rfl ?_);refine BR 29 Tryz.underlying29 rfl (.tmp 2) (w.heap.size) (AE e (.slice Am nm km) (.slice Ab nb kb) (.slice (some ⟨b,o,none⟩) 2 ks)) 29 AD rfl rfl rfl b4 ?_)|((with_reducible refine AF 29 (.tmp 4) (.tmp 67) rfl ?_);refine Ar 29 (.tmp 4) (.tmp 67) (w.heap.size+1) (AE e (.slice Am nm km) (.slice Ab nb kb) (.slice (some ⟨b,o,none⟩) 2 ks)) (AH 0 0) 29 AD rfl (Ay _ _ _ _ _ _ _ _ _ _) rfl rfl rfl rfl b2 ?_;intro w8 hb8 k8 d8));refine bodyPost_ret (AP rfl rfl AD Tryz.underlying29 rfl hb8) rfl ?_;refine⟨(AE e (.slice Am nm km) (.slice Ab nb kb) (.slice (some ⟨b,o,none⟩) 2 ks)),rfl,?_,Sb (HB24.out.2.2.trans HGX.out) k8 (fun i hi e=>by omega)⟩;rw[HF.out];exact HFIN.out wr w8 _ _ k8 (HRES.out wr HGX.out)
   have t1:(e.kind==3)=false:=by simpa using h3
   have hfin:Ah e=e.withKids (e.kids.map Ah):=by rw[F4];exact Hd (by rw[CC];exact h3)
   have HF:=S9 hfin;clear hE4 hTQ4 hMY4 hfin h3 hB0 hsz4 hgw k4 hsz hw1 hM2;go_wp2_with(first|((with_reducible refine AG 29 (.tmp 2) rfl ?_);refine BR 29 Tryz.underlying29 rfl (.tmp 2) (w.heap.size) (AE e (.slice Am nm km) (.slice Ab nb kb) (.slice As ns ks)) 29 AD rfl rfl rfl hb4 ?_)|((with_reducible refine AF 29 (.tmp 4) (.tmp 67) rfl ?_);refine Ar 29 (.tmp 4) (.tmp 67) (w.heap.size+1) (AE e (.slice Am nm km) (.slice Ab nb kb) (.slice As ns ks)) (AH 0 0) 29 AD rfl (Ay _ _ _ _ _ _ _ _ _ _) rfl rfl rfl rfl hb2 ?_;intro w8 hb8 k8 d8));refine bodyPost_ret (AP rfl rfl AD Tryz.underlying29 rfl hb8) rfl ?_;refine⟨(AE e (.slice Am nm km) (.slice Ab nb kb) (.slice As ns ks)),rfl,?_,Sb hgw4 k8 (fun i hi e=>by omega)⟩;rw[HF.out];exact HFIN.out w4 w8 _ _ k8 (HRES.out w4 (Sa _))
theorem Md (e:Ex) (hn:AL e≤1000000) (hok:BL Be e) (hs:EH e) (hv:Ca e=0) (hN:BL Be (Ah e)) (w:World) (cs:List Value) (hwt:D5 w) (hot:Dc w) (hr:BZ w w.heap.size e cs):
  Calls Tryz.prog 8 #[.agg cs.toArray] w (FG w 0 (Ah e)):=by
 have hone:∀v∈cs,v.oneCell'=true:=Al (BZ.toQ (Q:=fun _=>True) (fun _ _=>trivial) e cs hr);obtain⟨vm,vb,vk,rfl, -⟩:=hr.open_;obtain⟨hb1,hb2,hG⟩:=Bz w 29 29 (AE e vm vb vk).toArray (AH 0 0).toArray;have hs2:((w.alloc (.cells (AE e vm vb vk).toArray 29)).alloc (.cells (AH 0 0).toArray 29)).heap.size=w.heap.size+2:=by simp
 have HR:=S9 (fun w' (g:A5 w w')=>hr.grew g);have HVd:=S9 (fun w' (g:A5 w w')=>Ek e hn hok w' (AE e vm vb vk) (hwt.grew g) (hr.grew g));rw[hv]at HVd;have HT:=S9 (fun w' (g:A5 w w')=>SC (hwt.grew g) (hot.keep g (fun h=>h)));have HSO:=S9 hs;have HNN:=S9 hN;have HOK:=S9 hok;have HN:=S9 hn;clear hr hok hn hwt hot hs hN hv;go_enter Tryz.func8,Tryz.ntmps8;go_upto_region 1 with fail;change Code.wp _ _ _ _ ((w.alloc (.cells (AE e vm vb vk).toArray 29)).alloc (.cells (AH 0 0).toArray 29));generalize (w.alloc (.cells (AE e vm vb vk).toArray 29)).alloc (.cells (AH 0 0).toArray 29)=w1 at*;have HS:=S9 hs2;have HG:=S9 hG;clear hs2 hG;go_upto_region 3 with(first|((with_reducible refine AG 29 (.tmp 1) rfl ?_);refine BR 29 Tryz.underlying29 rfl (.tmp 1) (w.heap.size) (AE e vm vb vk) 29 AD rfl rfl rfl hb1 ?_)|(go_at_call 12;(with_reducible refine(HVd.out _ HG.out).mono ?_);rintro e3 w3 ⟨rfl,k3⟩));have hb3:=hb1.grew k3;have hb4:=hb2.grew k3;have HG3:=S9 (HG.out.trans k3);have hs3:=k3.size;have HS3:=S9 (show w.heap.size+2≤w3.heap.size by have:=HS.out;omega);have HSi:=S9 (ID (AL e) e (SD _) HN.out HSO.out w3 w3.heap.size (AE e vm vb vk) (HT.out _ HG3.out).1 (HT.out _ HG3.out).2 (SD _) (HR.out w3 HG3.out));have HSe:=S9 (fun w' cs' (h:BZ w' w'.heap.size (Ah e) cs')=>Hx (AL (Ah e)) (Ah e) (SD _) (SH (F5 (AL e) e (SD _) HSO.out).2 HN.out) HNN.out w' cs' h);clear hb1 hb2 k3 hs3 HVd;go_wp2_with(first|((with_reducible refine AG 29 (.tmp 1) rfl ?_);refine BR 29 Tryz.underlying29 rfl (.tmp 1) (w.heap.size) (AE e vm vb vk) 29 AD rfl rfl rfl hb3 ?_)|(go_at_call 29;(with_reducible refine HSi.out.mono ?_);rintro e4 w4 ⟨Y,rfl,hrY,k4⟩;have HY:=S9 (AW.toB (B:=w4.heap.size) (fun b hb=>hb.2) _ _ hrY);clear hrY;have hs4:=k4.size;have HS4:=S9 (SH HS3.out hs4);clear hs4)|(go_at_call 28;(with_reducible refine(HSe.out _ _ HY.out).mono ?_);rintro e5 w5 ⟨X,rfl,hrX,k5⟩;have hX1:=Al hrX;have hXl:X.length=11:=(by obtain⟨a,b,c,h, -⟩:=hrX.open_;rw[h];rfl);have HX:=S9 hrX;have HXl:=S9 hXl;clear hrX hXl;have hb5:=hb4.grew (k4.trans k5))|((with_reducible refine AF 29 (.tmp 2) (.tmp 10) rfl ?_);refine Ar 29 (.tmp 2) (.tmp 10) (w.heap.size+1) X (AH 0 0) 29 (by rw[HXl.out];exact AD) HXl.out.symm hX1 rfl rfl rfl rfl hb5 ?_;intro w8 hb8 k8 d8));refine bodyPost_ret (AP rfl rfl (by rw[HXl.out];exact AD) Tryz.underlying29 rfl hb8) rfl ?_;refine⟨X,rfl,?_,Sb (HG3.out.trans (k4.trans k5)) k8 (fun i hi e=>by omega)⟩;exact De k8 (Nat.zero_le _) HS4.out HX.out
end Go.Proofs.YthpflelgbadkcaaGreatDoor
