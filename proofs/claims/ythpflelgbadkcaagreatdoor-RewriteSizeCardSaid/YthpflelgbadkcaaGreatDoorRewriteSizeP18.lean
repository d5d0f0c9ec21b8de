/- What the card of the law stands on: PSimp, Clone2. -/
import Derived.Test.YthpflelgbadkcaaGreatDoorRewriteSizeP01
import Derived.Test.YthpflelgbadkcaaGreatDoorRewriteSizeP17
import Derived.Deep.DeepCutAuto
import Derived.Test.YthpflelgbadkcaaGreatDoorRewriteSizeP07
import Derived.Test.YthpflelgbadkcaaGreatDoorRewriteSizeP09
import Derived.Lib.LazyBuf
set_option maxRecDepth 100000
set_option maxHeartbeats 12800000
set_option linter.unusedVariables false
set_option linter.unusedSimpArgs false
namespace Go.Proofs.YthpflelgbadkcaaGreatDoor
open Go.RowKit Pl
theorem AW.two_le {w:World} {B M M':Nat} {e:Ex} {cs:List Value} (h:AW w (CW B M w.heap.size) e cs) (hM:M'≤M):AW w (CW B M' w.heap.size) e cs:=
 AW.keep (S:=fun _=>False) (fun b hb=>⟨hb.2,fun h=>h,by rcases hb.1 with h1|h1;exact .inl h1;exact .inr (by omega),hb.2⟩) (Sa w) e cs h
theorem Lq:(Tryz.prog.info? 105).map (·.size)=some 1:=by kernel_rfl
theorem Ok:(Tryz.prog.info? 106).map (·.size)=some 6:=by kernel_rfl
theorem JU:∀(k:Nat) (e:Ex),AL e≤k→k≤1000000→BL KN e→∀(w:World) (B0:Nat) (cs:List Value),B0≤w.heap.size→BZ w B0 e cs→
  Calls Tryz.prog 29 #[.agg cs.toArray,.int .i64 1] w (FG w B0 (Aq e))
 |0,e,h,_,_,_,_,_,_,_=>absurd (Aw e) (by omega)
 |k+1,e,hk,hk2,hok,w,B0,cs,hB0,hr=>by
  obtain⟨vm,vb,vk,rfl,hm,hy,hT⟩:=hr.open_;obtain⟨Am,nm,km,rfl⟩:∃A n c,vm= .slice A n c:=by obtain⟨A,c,h, -⟩:=hm;exact⟨A,_,c,h⟩
  obtain⟨Ab,nb,kb,rfl⟩:∃A n c,vb= .slice A n c:=by obtain⟨A,c,h, -⟩:=hy;exact⟨A,_,c,h⟩
  obtain⟨A,n,c,rfl,hn, -⟩:=hT.slice;have hne:=B9 e;have hkl:=Bh e.kids;have HIH:=S9 (fun(e':Ex) (w':World) (cs:List Value) (h0:B0≤w'.heap.size) (h1:e'∈e.kids) (h2:BZ w' B0 e' cs)=>JU k e' (by have:=Aa h1;omega) (by omega) (hok.kid h1) w' B0 cs h0 h2);have HT:=S9 hT;have HN:=S9 hn;have HMY:=S9 (SC hm hy);have HOK:=S9 hok;have HB0:=S9 hB0;have hnb:n≤1000000:=by omega
  obtain⟨hb1,hb2,hG⟩:=Bz w 29 29 (AE e (.slice Am nm km) (.slice Ab nb kb) (.slice A n c)).toArray (AH 0 0).toArray;have hs2:((w.alloc (.cells (AE e (.slice Am nm km) (.slice Ab nb kb) (.slice A n c)).toArray 29)).alloc (.cells (AH 0 0).toArray 29)).heap.size=w.heap.size+2:=by simp
  clear hr hm hy hT hn hne hkl hk hk2 hok hB0;go_enter Tryz.func29,Tryz.ntmps29;go_upto_region 1 with fail;change Code.wp _ _ _ _ ((w.alloc (.cells (AE e (.slice Am nm km) (.slice Ab nb kb) (.slice A n c)).toArray 29)).alloc (.cells (AH 0 0).toArray 29));generalize (w.alloc (.cells (AE e (.slice Am nm km) (.slice Ab nb kb) (.slice A n c)).toArray 29)).alloc (.cells (AH 0 0).toArray 29)=w1 at*;have HS:=S9 hs2;clear hs2;go_upto_region 2 with(first|((with_reducible refine AF 106 (.tmp 5) (.tmp 19) rfl ?_);refine Ar 106 (.tmp 5) (.tmp 19) (w1.heap.size) [.func (.func 56) #[] #[],.func (.func 57) #[] #[],.func (.func 58) #[] #[],.func (.func 59) #[] #[],.func (.func 60) #[] #[],.func (.func 61) #[] #[]] [.nilFunc,.nilFunc,.nilFunc,.nilFunc,.nilFunc,.nilFunc] 106 Ok rfl (by intro v hv;simp at hv;rcases hv with rfl|rfl|rfl|rfl|rfl|rfl<;>rfl) rfl rfl rfl rfl (Sc w1 106 _) ?_;intro w2 hb5 k5 d5;have g2:A5 w1 w2:=Sb ((Sa w1).alloc _) k5 (fun i hi e=>by omega)));have c10:w2.cell? ⟨w.heap.size,10,none⟩=some (.slice A n c):=(hb1.grew g2).cell 10;go_upto_region 3 with(first|((with_reducible refine Jo 27 (.const (.int .i64 0)) (.tmp 22) rfl ?_);refine Lv rfl (.const (.int .i64 0)) (.tmp 22) rfl n rfl rfl hnb ?_;intro w3 hM3 g3));have HB:=S9 (SC (hb1.grew (g2.trans g3)) (SC (hb2.grew (g2.trans g3)) (SC (hb5.grew g3) (hG.trans (g2.trans g3)))));have HM3:=S9 hM3;have HSZ:=S9 (show w.heap.size+2≤w1.heap.size∧w1.heap.size<w2.heap.size∧w2.heap.size≤w3.heap.size from⟨by have:=HS.out;omega,hb5.lt,g3.size⟩);clear hb1 hb2 hb5 hG g2 g3 hM3 c10 k5 d5;have c10:w3.cell? ⟨w.heap.size,10,none⟩=some (.slice A n c):=HB.out.1.cell 10;generalize w2.heap.size=M at*;go_wp2_with fail;go_loopw [6,8,27] (fun s _ i wr=>∃(j:Nat) (rows:List (List Value)),j≤n∧i= .int .i64 (j:Nat)∧BJ wr M 29 11 s rows∧CL wr (J6 B0 M s wr.heap.size) ((e.kids.take j).map Aq) rows∧AC (fun i=>M≤i) w3 wr) (fun _ _ i _=>n-(intOf i).toNat)
  case atStart=>exact⟨0,[],by omega,rfl,HM3.out,by simpa using CL.nil _ _,Se _ _⟩
  case round=>
   obtain⟨j,rows,hj,rfl,hM,hTr,hGr⟩:=hrel;obtain⟨As,ns,ks,rfl,hns, -⟩:=hM.slice;have HM:=S9 hM;have HTr:=S9 hTr;have HNS:=S9 hns;have HGr:=S9 hGr;clear hM hTr hns hGr;by_cases hlt:j<n
   ·have hjl:j<e.kids.length:=by rw[←HN.out];exact hlt
    obtain⟨e',he'⟩:∃e',e.kids[j]? =some e':=⟨_,SF hjl⟩;have hmem:e'∈e.kids:=SN he';have hgw:A5 w wr:=Sb HB.out.2.2.2 HGr.out fun i hi (e:M≤i)=>by have:=HSZ.out;omega
    have hTw:I1 wr B0 (.slice A n c) e.kids:=HT.out.keep HB0.out (SD _) hgw (fun _ _ h=>h);obtain⟨b,o,cs,rfl,hb,hrg,hre⟩:=hTw.at_ he';obtain⟨vm',vb',vk',hcs,hm',hy',hT'⟩:=hre.open_;subst hcs;obtain⟨A1,n1,c1,rfl⟩:∃A n c,vm'= .slice A n c:=by obtain⟨A,c,h, -⟩:=hm';exact⟨A,_,c,h⟩
    obtain⟨A2,n2,c2,rfl⟩:∃A n c,vb'= .slice A n c:=by obtain⟨A,c,h, -⟩:=hy';exact⟨A,_,c,h⟩
    obtain⟨A3,n3,c3,rfl, -⟩:=hT'.slice;have hsw:M≤wr.heap.size:=by have:=HGr.out.size;have:=HSZ.out;omega
    have HI:=S9 (fun w' (g:A5 wr w')=>HIH.out e' w' _ (by have:=HB0.out;have:=HSZ.out;have:=g.size;omega) hmem (BZ.keep (by have:=HB0.out;have:=HSZ.out;omega) (SD _) g (fun _ _ h=>h) e' _ hre));have HE:=S9 he';have HRg:=S9 hrg;have HSW:=S9 hsw;clear hjl he' hmem hTw hrg hre hm' hy' hT' hsw hgw;go_wp2_with(first|((with_reducible refine AG 29 (.tmp 29) rfl ?_);refine wpList_load_mid rfl 29 (.tmp 29) rfl b (o+j*11) rfl (AE e' (.slice A1 n1 c1) (.slice A2 n2 c2) (.slice A3 n3 c3)) _ HRg.out Tryz.underlying29 rfl AD ?_)|((with_reducible refine AF 29 (.tmp 8) (.tmp 30) rfl ?_);refine Ar 29 (.tmp 8) (.tmp 30) (wr.heap.size) (AE e' (.slice A1 n1 c1) (.slice A2 n2 c2) (.slice A3 n3 c3)) (AH 0 0) 29 AD rfl (Ay _ _ _ _ _ _ _ _ _ _) rfl rfl rfl rfl (Sc wr 29 _) ?_;intro w5 hb5 k5 d5;have g5:A5 wr w5:=Sb ((Sa wr).alloc _) k5 (fun i hi e=>by omega))|((with_reducible refine AG 29 (.tmp 8) rfl ?_);refine BR 29 Tryz.underlying29 rfl (.tmp 8) (wr.heap.size) (AE e' (.slice A1 n1 c1) (.slice A2 n2 c2) (.slice A3 n3 c3)) 29 AD rfl rfl rfl hb5 ?_));refine(HI.out _ g5).mono ?_;rintro e2 w6 ⟨cs3,rfl,hr3,k3⟩;obtain⟨vm3,vb3,vk3,rfl,hm3,hy3,hT3⟩:=hr3.open_;obtain⟨Am3,nm3,km3,rfl, -⟩:=hm3.slice;obtain⟨Ab3,nb3,kb3,rfl, -⟩:=hy3.slice;obtain⟨A3',n3',c3',rfl, -⟩:=hT3.slice;have HR3:=S9 (AW.two_le (M':=wr.heap.size) hr3 g5.size);have HK3:=S9 (g5.trans k3);have hl3:=Ck (Aq e') (.slice Am3 nm3 km3) (.slice Ab3 nb3 kb3) (.slice A3' n3' c3');clear k3 HI hr3 hm3 hy3 hT3 g5 hb5 k5 d5;go_wp2_with(at_builtin;refine J0 rfl (.tmp 31) (.tmp 35) rfl rfl rfl (SD _) HM.out HTr.out (by have:=HB0.out;have:=HSZ.out;omega) HSW.out HK3.out HR3.out (by rw[List.length_map,List.length_take];omega) ?_;intro A6 n6 c6 w7 H6);go_wp2_with fail;go_roundw
    case rel=>
     obtain⟨rows6,hM6,hT6,hG6⟩:=H6.out;have hes:(e.kids.take j).map Aq++[Aq e']=(e.kids.take (j+1)).map Aq:=by rw[List.take_add_one,HE.out];simp
     rw[hes]at hT6;exact⟨j+1,_,by omega,by go_num,hM6,hT6,AC.trans HGr.out hG6⟩
    case measure=>simp[intOf];omega
   obtain rfl:j=n:=by omega
   have hes:(e.kids.take j).map Aq=e.kids.map Aq:=by rw[List.take_of_length_le (by rw[←HN.out];exact SD _)]
   have hTr:=HTr.out;have hM:=HM.out;rw[hes]at hTr;have hm1:=hM.lt;have hTQ:DH wr (CW B0 M wr.heap.size) (.slice As ns ks) (e.kids.map Aq):=hM.treesQ hTr.1 (fun b hb=>⟨.inr (hm1 b hb).1,(hm1 b hb).2⟩) fun i e' cs h1 h2=>AW.keep (S:=fun _=>False) (fun b hb=>⟨hb.2.1,fun h=>h,hb.1,hb.2.1⟩) (Sa wr) e' cs (hTr.2 i e' cs h1 h2)
   have hsz:=HSZ.out;have hbr:=HB.out.1.keep HGr.out (by omega);have hb2:=HB.out.2.1.keep HGr.out (by omega);have hb5:=HB.out.2.2.1.keep HGr.out (by omega);have hgw:A5 w wr:=Sb HB.out.2.2.2 HGr.out fun i hi (e:M≤i)=>by omega
   have f10:=hbr.frozen 10;have hb4:Ag (wr.setCell ⟨w.heap.size,10,none⟩ (.slice As ns ks)) w.heap.size 29 ((AE e (.slice Am nm km) (.slice Ab nb kb) (.slice As ns ks))).toArray:=hbr.set_ 10 (.slice As ns ks);have k4:AC (fun i=>i=w.heap.size) wr (wr.setCell ⟨w.heap.size,10,none⟩ (.slice As ns ks)):=Sf (S:=fun i=>i=w.heap.size) (p:=⟨w.heap.size,10,none⟩) (Se _ wr) (.inl rfl) _;have hsz4:(wr.setCell ⟨w.heap.size,10,none⟩ (.slice As ns ks)).heap.size=wr.heap.size:=by simp
   have HNs:=S9 (show ns=e.kids.length by have:=hTr.1;rw[List.length_map]at this;rw[HNS.out,this]);have HTQ:=S9 hTQ;have HE4:=S9 (SC hb4 (SC (hb2.far (p:=⟨w.heap.size,10,none⟩) (by simp) (.slice As ns ks)) (SC (hb5.far (p:=⟨w.heap.size,10,none⟩) (by simp;omega) (.slice As ns ks)) (SC k4 (SC hsz4 (SC hgw HGr.out.size))))));have c10':wr.cell? ⟨w.heap.size,10,none⟩=some (.slice A j c):=hbr.cell 10;clear hTQ hbr hb2 hb5 hgw hb4 k4 hsz4 hM hTr HM HTr HNS hes hm1 hsz c10;go_upto_region 9 with fail;generalize wr.setCell ⟨w.heap.size,10,none⟩ (.slice As ns ks)=w4 at*;obtain⟨hb4,hb2,hb5,k4,hsz4,hgw,hw1⟩:=HE4.out;have hsz:=HSZ.out;have hB0:=HB0.out;have hTQ4:DH w4 (CW B0 M wr.heap.size) (.slice As ns ks) (e.kids.map Aq):=HTQ.out.keep (S:=fun i=>i=w.heap.size) (fun b hb=>⟨hb.2,fun h=>by rcases hb.1 with h1|h1<;>omega,hb⟩) k4;have hgw4:A5 w w4:=Sb hgw k4 fun i hi e=>by omega
   have hMY4:Ch w4 B0 3 (.slice Am nm km) (e.ms.map Au)∧Ch w4 B0 1 (.slice Ab nb kb) (e.bys.map fun s=>[Value.string s]):=⟨HMY.out.1.keep hB0 (SD _) hgw4 (fun _ _ h=>h),HMY.out.2.keep hB0 (SD _) hgw4 (fun _ _ h=>h)⟩;have hE4:∀w',A5 w4 w'→AW w' (CW B0 M w'.heap.size) (e.withKids (e.kids.map Aq)) (AE e (.slice Am nm km) (.slice Ab nb kb) (.slice As ns ks)):=fun w' g=>by
    have hsz:=g.size;have h1:=AW.mk_ (e:=e.withKids (e.kids.map Aq)) (Q:=CW B0 M w'.heap.size) (w:=w') (vm:= .slice Am nm km) (vb:= .slice Ab nb kb) (vk:= .slice As ns ks) (by rw[JF];exact(hMY4.1.keep (by omega) (SD _) g (fun _ _ h=>h)).toQ fun b hb=>⟨.inl hb,by omega⟩) (by rw[Gm];exact(hMY4.2.keep (by omega) (SD _) g (fun _ _ h=>h)).toQ fun b hb=>⟨.inl hb,by omega⟩) (by rw[Bl];exact hTQ4.keep (fun b hb=>⟨by have:=hb.2;omega,fun h=>h,hb.1,by have:=hb.2;omega⟩) g);rwa[I8]at h1
   have HRES:=S9 hE4;have hM2:w.heap.size+2≤M:=by omega
   have HFIN:=S9 (fun(w5 w8:World) (e5:Ex) (cs:List Value) (k8:AC (fun i=>i=w.heap.size+1) w5 w8) (h:AW w5 (CW B0 M w5.heap.size) e5 cs)=>De k8 hB0 hM2 h);have c0:w4.cell? ⟨w.heap.size,0,none⟩=some (.int .i64 e.kind):=hb4.cell 0;by_cases h3:e.kind=3
   ·have t1:(e.kind==3)=true:=by simpa using h3
    have hp:=HOK.out.top.2 h3;have h64:=HOK.out.top.1;obtain⟨ea,eb,hks⟩:∃ea eb,e.kids=[ea,eb]:=by
     rcases hq:e.kids with _|⟨a,_|⟨b,_|⟨d,l⟩⟩⟩<;>rw[hq]at hp<;>simp at hp;exact⟨a,b,rfl⟩
    have hk4:(e.withKids (e.kids.map Aq)).kids=[Aq ea,Aq eb]:=by rw[Bl,hks];rfl
    have h34:(e.withKids (e.kids.map Aq)).kind=3:=by rw[CC];exact h3
    have h64a:Ea (Aq ea):=Kl (HOK.out.kid (by rw[hks];simp)).top.1;have h64b:Ea (Aq eb):=Kl (HOK.out.kid (by rw[hks];simp)).top.1;obtain rfl:ns=2:=by rw[HNs.out,hks];rfl
    have hks2:e.kids.map Aq=[Aq ea,Aq eb]:=by rw[hks];rfl
    rw[hks2]at hTQ4;obtain⟨b,o,csa,rfl,hbq,hra,hea⟩:=hTQ4.at_ (j:=0) (e:=Aq ea) rfl;obtain⟨b',o',csb,hbo, -,hrb,heb⟩:=hTQ4.at_ (j:=1) (e:=Aq eb) rfl;simp only[SW,Addr.mk.injEq,and_true]at hbo;obtain⟨rfl,rfl⟩:=hbo;obtain⟨va1,va2,va3,rfl,hq1,hq2,hq3⟩:=hea.open_;obtain⟨Aa1,na1,ca1,rfl, -⟩:=hq1.slice;obtain⟨Aa2,na2,ca2,rfl, -⟩:=hq2.slice;obtain⟨Aa3,na3,ca3,rfl, -⟩:=hq3.slice;obtain⟨ve1,ve2,ve3,rfl,hq4,hq5,hq6⟩:=heb.open_;obtain⟨Ab1,nb1,cb1,rfl, -⟩:=hq4.slice;obtain⟨Ab2,nb2,cb2,rfl, -⟩:=hq5.slice;obtain⟨Ab3,nb3,cb3,rfl, -⟩:=hq6.slice;have hrows:∀w',A5 w4 w'→w'.rangeAt b o (AE (Aq ea) (.slice Aa1 na1 ca1) (.slice Aa2 na2 ca2) (.slice Aa3 na3 ca3))∧w'.rangeAt b (o+11) (AE (Aq eb) (.slice Ab1 nb1 cb1) (.slice Ab2 nb2 cb2) (.slice Ab3 nb3 cb3)):=fun w' g=>⟨by have:=Ao hra (by have:=hbq.2;omega) g (fun h=>h);simpa using this,by have:=Ao hrb (by have:=hbq.2;omega) g (fun h=>h);simpa using this⟩
    obtain⟨x,y,ok,hF,hXt,hXf⟩:∃(x y:Int) (ok:Bool),(∀w',Calls Tryz.prog 56 #[.int .i64 e.fn,.agg (AE (Aq ea) (.slice Aa1 na1 ca1) (.slice Aa2 na2 ca2) (.slice Aa3 na3 ca3)).toArray,.agg (AE (Aq eb) (.slice Ab1 nb1 cb1) (.slice Ab2 nb2 cb2) (.slice Ab3 nb3 cb3)).toArray] w' fun e' w''=>e'= .returned (.tuple #[.agg (AH x y).toArray,.bool ok])∧A5 w' w'')∧(ok=true→Aq e=BG x y)∧(ok=false→Aq e=e.withKids (e.kids.map Aq)):=by
     by_cases hz:(Aq ea).kind=0∧(Aq eb).kind=0
     ·obtain⟨⟨x,y,er⟩,hap⟩:∃r,CD e.fn (Aq ea).num (Aq ea).den (Aq eb).num (Aq eb).den=r:=⟨_,rfl⟩;refine⟨x,y,er==0,fun w'=>JO e.fn (Aq ea) (Aq eb) _ _ _ _ _ _ w' hz.1 hz.2 ⟨hp.2.1,hp.2.2⟩ h64a.2.2.2.2.2.1 h64a.2.2.2.2.2.2 h64b.2.2.2.2.2.1 h64b.2.2.2.2.2.2 x y er hap,fun hok=>?_,fun hok=>?_⟩
      ·obtain rfl:er=0:=by simpa using hok
       rw[Cq];exact JH hk4 h34 hz.1 hz.2 (by rw[IC];exact hap)
      rw[Cq];exact NP (x:=x) (y:=y) (er:=er) hk4 (by rw[IC];exact hap) (by simpa using hok)
     refine⟨0,0,false,fun w'=>Je e.fn (Aq ea) (Aq eb) _ _ _ _ _ _ w' hz,(fun h=>nomatch h),fun _=>?_⟩;rw[Cq];exact Jj fun _=>⟨_,_,hk4,hz⟩
    have HAP:=S9 hF;have HXT:=S9 hXt;have HXF:=S9 hXf;have HROW:=S9 hrows;have hb5c:∀w',A5 w4 w'→Ag w' w1.heap.size 106 ([.func (.func 56) #[] #[],.func (.func 57) #[] #[],.func (.func 58) #[] #[],.func (.func 59) #[] #[],.func (.func 60) #[] #[],.func (.func 61) #[] #[]]:List Value).toArray:=fun w' g=>hb5.grew g
    have HB5:=S9 hb5c;have HB24:=S9 (SC hb4 (SC hb2 hgw4));clear hE4 hTQ4 hMY4 h3 hB0 hsz4 hgw k4 hF hXt hXf hp h64 h64a h64b hk4 h34 hks hks2 hra hrb hea heb hq1 hq2 hq3 hq4 hq5 hq6 hbq hrows hb5c hsz hw1 hM2 hb5 hb4 hb2 hgw4;have HFN:=S9 (show ∀w',A5 w4 w'→w'.cell? ⟨w.heap.size,1,none⟩=some (.int .i64 e.fn)from fun w' g=>(HB24.out.1.grew g).cell 1);generalize e.fn=fnv at*;go_wp2_with fail;go_loopw [10,11,12,46] (fun _ _ _ i wr=>∃m:Int,i= .int .i64 m∧(m=0∨m=1∧ok=false)∧A5 w4 wr) (fun _ _ _ i _=>1-(intOf i).toNat)
    case atStart=>exact⟨0,rfl,.inl rfl,Sa _⟩
    case round=>
     obtain⟨m,rfl,hm,hg⟩:=hrel;have HGX:=S9 hg;have r0:wr.rangeAt w1.heap.size 0 [.func (.func 56) #[] #[]]:=(HB5.out wr hg).rangeN 0 [.func (.func 56) #[] #[]] rfl;have r0c:wr.cell? ⟨w1.heap.size,0,none⟩=some (.func (.func 56) #[] #[]):=(HB5.out wr hg).cell 0;have b4:=HB24.out.1.grew hg;have b2:=HB24.out.2.1.grew hg;rcases hm with rfl|⟨rfl,rfl⟩
     ·clear hg;go_upto_region 13 with(first|((with_reducible refine AF 105 (.tmp 10) (.tmp 49) rfl ?_);refine Ar 105 (.tmp 10) (.tmp 49) (wr.heap.size) [.func (.func 56) #[] #[]] [.nilFunc] 105 Lq rfl (by intro v hv;simp at hv;subst hv;rfl) rfl rfl rfl rfl (Sc wr 105 _) ?_;intro w7 hb10 k10 d10;have g7:A5 wr w7:=Sb ((Sa wr).alloc _) k10 (fun i hi e=>by omega)));have h7:A5 w4 w7:=HGX.out.trans g7;have HRW:=S9 (show ∀w',A5 w7.drew w'→w'.cell? ⟨wr.heap.size,0,none⟩=some (.func (.func 56) #[] #[])∧w'.cell? ⟨w.heap.size,1,none⟩=some (.int .i64 fnv)∧w'.rangeAt b o (AE (Aq ea) (.slice Aa1 na1 ca1) (.slice Aa2 na2 ca2) (.slice Aa3 na3 ca3))∧w'.rangeAt b (o+11) (AE (Aq eb) (.slice Ab1 nb1 cb1) (.slice Ab2 nb2 cb2) (.slice Ab3 nb3 cb3))from fun w' g=>by
       have gg:A5 w7 w':=(Sd (Sa w7)).trans g;exact⟨(hb10.grew gg).cell 0,HFN.out w' (h7.trans gg),HROW.out w' (h7.trans gg)⟩)
      have b47:=b4.grew g7;have b27:=b2.grew g7;have HB7:=S9 (SC b47 (SC b27 h7));clear b4 b2 b47 b27 h7 g7 hb10 k10 d10 r0 r0c;generalize wr.heap.size=z10 at*;refine Co (by kernel_rfl) 15 14 11 [13,16] [.pointer (some ⟨z10,0,none⟩),.func (.func 56) #[] #[],.pointer (some ⟨w.heap.size,1,none⟩),.int .i64 fnv,.slice (some ⟨b,o,none⟩) 2 ks,.pointer (some ⟨b,o,none⟩),.agg (AE (Aq ea) (.slice Aa1 na1 ca1) (.slice Aa2 na2 ca2) (.slice Aa3 na3 ca3)).toArray,.slice (some ⟨b,o,none⟩) 2 ks,.pointer (some ⟨b,o+11,none⟩),.agg (AE (Aq eb) (.slice Ab1 nb1 cb1) (.slice Ab2 nb2 cb2) (.slice Ab3 nb3 cb3)).toArray,.tuple #[.agg (AH x y).toArray,.bool ok],.tuple #[.agg (AH x y).toArray,.bool ok],.agg (AH x y).toArray,.bool ok,undef,undef,.bool ok] 29 (AH 0 0) _ (by kernel_rfl) (by kernel_rfl) (by decide) (by decide) (by decide) (SL (by kernel_rfl)) rfl (SL (by kernel_rfl)) (by kernel_rfl) ?hH ?hal (AH x y) (.tmp 11) (.tmp 62) 29 _ rfl rfl rfl (by simp[Op.operands]) (by simp[Op.operands]) AD rfl (AX _ _) (fun z=>by kernel_rfl) (fun z=>by kernel_rfl) ?hT
      case hH=>
       simp only[List.toList_toArray,List.take_succ_cons,List.take_zero,AI,Act.put,List.setIfInBounds_toArray,List.set_cons_zero,List.set_cons_succ];refine AS (by decide) (fun z w' hg=>?_) ?_
       ·go_simp;exact Sa _
       refine AS (by decide) (fun z w' hg=>?_) ?_
       ·obtain⟨g1,g2,g3,g4⟩:=HRW.out _ hg;go_simp;exact Sa _
       refine AS (by decide) (fun z w' hg=>?_) ?_
       ·go_simp;exact Sa _
       refine AS (by decide) (fun z w' hg=>?_) ?_
       ·obtain⟨g1,g2,g3,g4⟩:=HRW.out _ hg;go_simp;exact Sa _
       refine AS (by decide) (fun z w' hg=>?_) ?_
       ·go_simp;exact Sa _
       refine AS (by decide) (fun z w' hg=>?_) ?_
       ·go_simp;exact Sa _
       refine AS (by decide) (fun z w' hg=>?_) ?_
       ·obtain⟨g1,g2,g3,g4⟩:=HRW.out _ hg;refine wp_load_mid 29 (.tmp 56) rfl b (o) rfl (AE (Aq ea) (.slice Aa1 na1 ca1) (.slice Aa2 na2 ca2) (.slice Aa3 na3 ca3)) _ g3 Tryz.underlying29 rfl AD ?_;exact⟨rfl,Sa _⟩
       refine AS (by decide) (fun z w' hg=>?_) ?_
       ·go_simp;exact Sa _
       refine AS (by decide) (fun z w' hg=>?_) ?_
       ·go_simp;exact Sa _
       refine AS (by decide) (fun z w' hg=>?_) ?_
       ·obtain⟨g1,g2,g3,g4⟩:=HRW.out _ hg;refine wp_load_mid 29 (.tmp 59) rfl b (o+11) rfl (AE (Aq eb) (.slice Ab1 nb1 cb1) (.slice Ab2 nb2 cb2) (.slice Ab3 nb3 cb3)) _ g4 Tryz.underlying29 rfl AD ?_;exact⟨rfl,Sa _⟩
       refine AS (by decide) (fun z w' hg=>?_) ?_
       ·go_simp;(with_reducible refine(HAP.out _).mono ?_);rintro e wq ⟨rfl,kq⟩;exact⟨rfl,kq⟩
       refine AS (by decide) (fun z w' hg=>?_) ?_
       ·go_simp;exact Sa _
       refine AS (by decide) (fun z w' hg=>?_) ?_
       ·go_simp;exact Sa _
       refine C2 (by decide) (fun z w'=>?_) ?_
       ·go_simp
       refine DO (by decide) ?_;refine DN (by decide) ?_;refine C2 (by decide) (fun z w'=>?_) ?_
       ·go_simp
       exact EZ
      case hal=>
       intro o1 ho a1 w8 K hK;obtain rfl:=SI ho;go_simp;exact hK _ rfl
      case hT=>
       intro z wz hz hbz hgz;dsimp only;simp only[List.toList_toArray,List.take_succ_cons,List.take_zero,AI,Act.put,List.setIfInBounds_toArray,List.set_cons_zero,List.set_cons_succ];have b2z:=HB7.out.2.1.grew hgz;have HGZ:=S9 (HB7.out.2.2.trans hgz);clear HRW hz hgz;rcases ok with _|_
       ·go_wp2_with fail;go_roundw
        case rel=>exact⟨1,rfl,.inr ⟨rfl,trivial⟩,HGZ.out⟩
        case measure=>simp[intOf]
       have HF:=S9 (HXT.out rfl);go_wp2_with(first|((with_reducible refine AG 29 (.tmp 11) rfl ?_);refine BR 29 Tryz.underlying29 rfl (.tmp 11) (z) (AH x y) 29 AD rfl rfl rfl hbz ?_)|((with_reducible refine AF 29 (.tmp 4) (.tmp 65) rfl ?_);refine Ar 29 (.tmp 4) (.tmp 65) (w.heap.size+1) (AH x y) (AH 0 0) 29 AD rfl (AX _ _) rfl rfl rfl rfl b2z ?_;intro w8 hb8 k8 d8));refine bodyPost_ret (AP rfl rfl AD Tryz.underlying29 rfl hb8) rfl ?_;refine⟨AH x y,rfl,?_,Sb (HB24.out.2.2.trans HGZ.out) k8 (fun i hi e=>by omega)⟩;rw[HF.out];exact AW.mk_ (e:=BG x y) (C0.nil _ _ _) (C0.nil _ _ _) (DH.nil _ _)
     have HF:=S9 (HXF.out rfl);clear hg r0 r0c;go_wp2_with(first|((with_reducible refine AG 29 (.tmp 2) rfl ?_);refine BR 29 Tryz.underlying29 rfl (.tmp 2) (w.heap.size) (AE e (.slice Am nm km) (.slice Ab nb kb) (.slice (some ⟨b,o,none⟩) 2 ks)) 29 AD rfl rfl rfl b4 ?_)|((with_reducible refine AF 29 (.tmp 4) (.tmp 67) rfl ?_);refine Ar 29 (.tmp 4) (.tmp 67) (w.heap.size+1) (AE e (.slice Am nm km) (.slice Ab nb kb) (.slice (some ⟨b,o,none⟩) 2 ks)) (AH 0 0) 29 AD rfl (Ay _ _ _ _ _ _ _ _ _ _) rfl rfl rfl rfl b2 ?_;intro w8 hb8 k8 d8));refine bodyPost_ret (AP rfl rfl AD Tryz.underlying29 rfl hb8) rfl ?_;refine⟨(AE e (.slice Am nm km) (.slice Ab nb kb) (.slice (some ⟨b,o,none⟩) 2 ks)),rfl,?_,Sb (HB24.out.2.2.trans HGX.out) k8 (fun i hi e=>by omega)⟩;rw[HF.out];exact HFIN.out wr w8 _ _ k8 (HRES.out wr HGX.out)
   have t1:(e.kind==3)=false:=by simpa using h3
   have hfin:Aq e=e.withKids (e.kids.map Aq):=by rw[Cq];exact Jj fun h=>absurd (by rw[CC]at h;exact h) h3
   have HF:=S9 hfin;clear hE4 hTQ4 hMY4 hfin h3 hB0 hsz4 hgw k4 hsz hw1 hM2;go_wp2_with(first|((with_reducible refine AG 29 (.tmp 2) rfl ?_);refine BR 29 Tryz.underlying29 rfl (.tmp 2) (w.heap.size) (AE e (.slice Am nm km) (.slice Ab nb kb) (.slice As ns ks)) 29 AD rfl rfl rfl hb4 ?_)|((with_reducible refine AF 29 (.tmp 4) (.tmp 67) rfl ?_);refine Ar 29 (.tmp 4) (.tmp 67) (w.heap.size+1) (AE e (.slice Am nm km) (.slice Ab nb kb) (.slice As ns ks)) (AH 0 0) 29 AD rfl (Ay _ _ _ _ _ _ _ _ _ _) rfl rfl rfl rfl hb2 ?_;intro w8 hb8 k8 d8));refine bodyPost_ret (AP rfl rfl AD Tryz.underlying29 rfl hb8) rfl ?_;refine⟨(AE e (.slice Am nm km) (.slice Ab nb kb) (.slice As ns ks)),rfl,?_,Sb hgw4 k8 (fun i hi e=>by omega)⟩;rw[HF.out];exact HFIN.out w4 w8 _ _ k8 (HRES.out w4 (Sa _))
def JR (w:World) (sz:Nat) (rows:List (List Value)) (e:Ending) (w':World):Prop:=∃v,e= .returned v∧C0 w' (fun b=>w.heap.size≤b∧b<w'.heap.size) sz v rows∧A5 w w'
theorem JM {P:Program} {t e:TypeId} {sz bytes:Nat} {z:Value} {w:World} {base:Nat} {v sv:Value} {rows news:List (List Value)} {ops:Array Oper} {rest:List Oper} {o:Oper} {a:Act} {Q:Exit→Act→World→Prop} (T:P7 P t e sz bytes z) (hgd:o.guard=none) (s x:Operand)
  (ho:o.op= .call { callee:= .builtin .append,args:=#[s,x],argTypes:=#[t,t] })
  (hs:a.eval s=v) (hown:BJ w base e sz v rows) (hx:a.eval x=sv) {B:Nat} (hr:Ch w B sz sv news) (hev:KQ sz news) (h1:∀r∈news,∀u∈r,u.oneCell'=true)
  (hn:rows.length+news.length≤1099511627) (hbase:base≤w.heap.size)
  (h:∀v' w',BJ w' base e sz v' (rows++news)→AC (fun i=>v.ownBlock=some i) w w'→wpList P ops Q rest (a.put o.dst v') w'):wpList P ops Q (o::rest) a w:=by
 refine wpList_plain hgd fun K hK=>?_
 obtain⟨v',w',hrun,h2,h3,h4⟩:=GJ (P:=P) T o.type hown hr hev h1 hn hbase;unfold Oper.wp execOp;simp only[ho,resolve,invoke,builtin,Sem.run_bind,Sem.run_pure,Result.andThen_ok,List.map_toArray,List.map_cons,List.map_nil,hs,hx,hrun];exact hK _ _ (h v' w' h2 h3)
theorem S7:P7 Tryz.prog 25 68 3 40 (.agg #[.string ⟨#[]⟩,.int .i64 0,.string ⟨#[]⟩]):=⟨Tryz.underlying25,by kernel_rfl,rfl,by decide,by decide⟩
theorem Lx (v:Value) (rows:List (List Value)) (w:World) (h:Ch w w.heap.size 3 v rows) (hev:KQ 3 rows) (h1:∀r∈rows,∀u∈r,u.oneCell'=true) (hn:rows.length≤1000000):Calls Tryz.prog 38 #[v] w (JR w 3 rows):=by
 obtain⟨A,c,rfl,hc,hx⟩:=h;obtain⟨n,hnn⟩:∃n,rows.length=n:=⟨_,rfl⟩;have hrd:∀w',A5 w w'→Ch w' w'.heap.size 3 (.slice A rows.length c) rows:=fun w' g=>Ch.keep (B:=w.heap.size) ⟨A,c,rfl,hc,hx⟩ (SD _) g.size g (fun _ _ h=>h)
 rw[hnn]at hc hx hrd;have HN:=S9 hnn;have HX:=S9 hx;have HRD:=S9 hrd;have HEV:=S9 (SC hev h1);clear hx hev h1 hrd;rw[hnn];clear hnn;go_enter Tryz.func38,Tryz.ntmps38;have heq:=fun w=>run_eql_slice_nil (P:=Tryz.prog) w 25 68 A n c Tryz.underlying25
 rcases A with _|ad
 ·have HR0:=S9 (show rows=[]from by
   rcases hr:rows with _|⟨r,rs⟩
   ·rfl
   obtain⟨b,o,h, -⟩:=HX.out (by have:=HN.out;rw[hr]at this;simp at this;omega);cases h)
  go_wp2_with fail;go_ret;refine⟨_,rfl,?_,Sa _⟩;rw[HR0.out];exact C0.nil _ _ _
 go_wp2_with(at_builtin;refine JM S7 rfl (.tmp 5) (.tmp 6) rfl rfl (BJ.made (base:=w.heap.size) (c:=0) #[] rfl (by decide) (SD _)) rfl (HRD.out _ ((Sa w).alloc _)) HEV.out.1 HEV.out.2 (by have:=HN.out;simp;omega) (by simp) ?_;intro v' w3 hM k3;have HM:=S9 hM;have HK:=S9 k3;clear hM k3);go_ret;refine⟨_,rfl,(HM.out.own).keep (S:=fun _=>False) (fun b hb=>⟨(HM.out.lt b hb).2,fun h=>h,(HM.out.lt b hb).1,(HM.out.lt b hb).2⟩) (Sa _),Sb ((Sa w).alloc _) HK.out fun i hi e=>by
  have h:some w.heap.size=some i:=e;injection h with h;omega⟩
theorem S8:P7 Tryz.prog 26 9 1 16 (.string ⟨#[]⟩):=⟨Tryz.underlying26,by kernel_rfl,rfl,by decide,by decide⟩
theorem Lu (v:Value) (rows:List (List Value)) (w:World) (h:Ch w w.heap.size 1 v rows) (hev:KQ 1 rows) (h1:∀r∈rows,∀u∈r,u.oneCell'=true) (hn:rows.length≤1000000):Calls Tryz.prog 39 #[v] w (JR w 1 rows):=by
 obtain⟨A,c,rfl,hc,hx⟩:=h;obtain⟨n,hnn⟩:∃n,rows.length=n:=⟨_,rfl⟩;have hrd:∀w',A5 w w'→Ch w' w'.heap.size 1 (.slice A rows.length c) rows:=fun w' g=>Ch.keep (B:=w.heap.size) ⟨A,c,rfl,hc,hx⟩ (SD _) g.size g (fun _ _ h=>h)
 rw[hnn]at hc hx hrd;have HN:=S9 hnn;have HX:=S9 hx;have HRD:=S9 hrd;have HEV:=S9 (SC hev h1);clear hx hev h1 hrd;rw[hnn];clear hnn;go_enter Tryz.func39,Tryz.ntmps39;have heq:=fun w=>run_eql_slice_nil (P:=Tryz.prog) w 26 9 A n c Tryz.underlying26
 rcases A with _|ad
 ·have HR0:=S9 (show rows=[]from by
   rcases hr:rows with _|⟨r,rs⟩
   ·rfl
   obtain⟨b,o,h, -⟩:=HX.out (by have:=HN.out;rw[hr]at this;simp at this;omega);cases h)
  go_wp2_with fail;go_ret;refine⟨_,rfl,?_,Sa _⟩;rw[HR0.out];exact C0.nil _ _ _
 go_wp2_with(at_builtin;refine JM S8 rfl (.tmp 5) (.tmp 6) rfl rfl (BJ.made (base:=w.heap.size) (c:=0) #[] rfl (by decide) (SD _)) rfl (HRD.out _ ((Sa w).alloc _)) HEV.out.1 HEV.out.2 (by have:=HN.out;simp;omega) (by simp) ?_;intro v' w3 hM k3;have HM:=S9 hM;have HK:=S9 k3;clear hM k3);go_ret;refine⟨_,rfl,(HM.out.own).keep (S:=fun _=>False) (fun b hb=>⟨(HM.out.lt b hb).2,fun h=>h,(HM.out.lt b hb).1,(HM.out.lt b hb).2⟩) (Sa _),Sb ((Sa w).alloc _) HK.out fun i hi e=>by
  have h:some w.heap.size=some i:=e;injection h with h;omega⟩
end Go.Proofs.YthpflelgbadkcaaGreatDoor
