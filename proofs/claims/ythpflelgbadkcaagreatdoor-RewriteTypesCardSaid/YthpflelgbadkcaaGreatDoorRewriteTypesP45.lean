/- What the card of the law stands on: TUn, TOf, TBy. -/
import Derived.Test.YthpflelgbadkcaaGreatDoorRewriteTypesP01
import Derived.Test.YthpflelgbadkcaaGreatDoorRewriteTypesP44
import Derived.Test.YthpflelgbadkcaaGreatDoorRewriteTypesP10
import Derived.Test.YthpflelgbadkcaaGreatDoorRewriteTypesP02
import Derived.Test.YthpflelgbadkcaaGreatDoorRewriteTypesP43
set_option maxRecDepth 100000
set_option maxHeartbeats 12800000
set_option linter.unusedVariables false
set_option linter.unusedSimpArgs false
namespace Go.Proofs.YthpflelgbadkcaaGreatDoor
open Go.RowKit Go.Shelf Pl
section
variable {P:Program} {ops:Array Oper} {rest:List Oper} {o:Oper} {a:Act} {Q:Exit→Act→World→Prop} {w:World}
theorem Uh (T:TypeId) (x y:Operand) (g k:Nat) (vs us:List Value) (t:TypeId) (hT:(P.info? T).map (·.size)=some vs.length) (hl:k+vs.length≤us.length) (h1:∀v∈vs,v.oneCell'=true) (hgd:o.guard=none) (ho:o.op= .store T x y)
  (hx:a.eval x= .pointer (some ⟨g,k,none⟩)) (hy:a.eval y= .agg vs.toArray) (hb:AR w g t us.toArray)
  (h:∀w',AR w' g t (us.take k++vs++us.drop (k+vs.length)).toArray→AA (fun i=>i=g) w w'→wpList P ops Q rest (a.put o.dst undef) w'):wpList P ops Q (o::rest) a w:=by
 refine wpList_store_mid hgd T x y ho g k vs.toArray hx hy (by simpa using hb.thereN k vs.length hl) (by simpa using hT) (all_oneCell_toArray h1) ?_;exact h _ (hb.putN vs k hl) (C3 g vs k w).1
end
theorem UA (ua ub v:Un) (j:Nat) (hj:j<2):(Aa ua++Aa ub).take (j*3)++Aa v++(Aa ua++Aa ub).drop (j*3+(Aa v).length)=Aa (if j=0 then v else ua)++Aa (if j=0 then ub else v):=by
 rcases(by omega:j=0∨j=1)with rfl|rfl<;>rfl
theorem Rg {ds:List Du} {e kid:Ex} {m:Nat} (hg:Be e) (hk:e.kids[m]? =some kid) (hb:∀i x,i<m→e.kids[i]? =some x→(vE 7 ds x).1.2=0) (h:(vE 7 ds kid).1.2≠0):(vE 7 ds e).1=(BO,(vE 7 ds kid).1.2):=by
 rcases FK hg.top.2 with⟨h0,hks⟩|⟨h0,hks⟩|⟨h0,a,hks⟩|⟨h0,ea,eb,hks⟩
 ·rw[hks]at hk;simp at hk
 ·rw[hks]at hk;simp at hk
 ·rw[F5 h0 hks];rw[hks]at hk;rcases m with _|m
  ·obtain rfl:a=kid:=by simpa using hk
   unfold Oq;exact VN h
  simp at hk
 rw[Dr h0 hks];rw[hks]at hk hb;unfold Bx;dsimp only;rcases m with _|_|m
 ·obtain rfl:ea=kid:=by simpa using hk
  exact VN h
 ·obtain rfl:eb=kid:=by simpa using hk
  rw[VM (not_not_intro (hb 0 ea (by omega) rfl))];exact VN h
 simp at hk
theorem RA {e:Ex} (hg:Be e):e.kids.length≤2:=by
 rcases FK hg.top.2 with⟨h0,hks⟩|⟨h0,hks⟩|⟨h0,a,hks⟩|⟨h0,ea,eb,hks⟩<;>rw[hks]<;>simp
theorem Ke (ds:List Du) (hdn:ds.length≤1000) (hls:∀d∈ds,d.1.2.length≤1000000):∀(k:Nat) (e:Ex),AH e≤k→Be e→∀(g:Nat) (T:TypeId) (dv:Value) (w:World) (cs:List Value),AR w g T (E9 dv 0).toArray→GZ Lg 12 w (fun b=>b<g) dv ds→BU w g e cs→
  Calls Tryz.prog 48 #[.pointer (some ⟨g,0,none⟩),.agg cs.toArray] w fun e' w'=>e'= .returned (.agg (Aa (vE 7 ds e).1.1).toArray)∧AR w' g T (E9 dv (vE 7 ds e).1.2).toArray∧AA (fun i=>i=g) w w'
 |0,e,h,_,_,_,_,_,_,_,_,_=>absurd (Aj e) (by omega)
 |f+1,e,hk,hg0,g,T,dv,w,cs,hb,hd,hr=>by
  have hr0:=hr;obtain⟨vm,vb,vk,rfl, -, -,hT⟩:=hr.open_;obtain⟨A,n,c,rfl,hn,hnc⟩:=hT.slice;have hne:=Az e;have hn2:n≤2:=by rw[hn];exact RA hg0
  have hlt:=hb.lt;have HN:=V3 hn;have HGd:=V3 hg0;have HKd:=V3 (fun(m:Nat) (kid:Ex) (hm:e.kids[m]? =some kid)=>(show Be kid∧AH kid≤f from⟨hg0.kid (VJ hm),by have:=AT (VJ hm);omega⟩));have HRec:=V3 (fun(kid:Ex) (h1:AH kid≤f) (h2:Be kid) (w':World) (cs:List Value) (h3:AR w' g T (E9 dv 0).toArray) (hkp:AA (fun i=>i=g) w w') (h4:BU w' g kid cs)=>Ke ds hdn hls f kid h1 h2 g T dv w' cs h3 (hd.keep Io (fun b hb=>⟨Nat.lt_trans hb hlt,Nat.ne_of_lt hb,hb⟩) hkp) h4);have HSel:=V3 (fun(w':World) (h3:AR w' g T (E9 dv 0).toArray) (hkp:AA (fun i=>i=g) w w')=>Pj g T dv ds e w' (AC e vm vb (.slice A n c)) h3 (hd.keep Io (fun b hb=>⟨Nat.lt_trans hb hlt,Nat.ne_of_lt hb,hb⟩) hkp) hdn hls (BU.keep (Nat.le_of_lt hlt) (V6 _) hkp (fun i hi e=>by omega) _ _ hr0) (VD hg0.top.1.2.2.2.2.1 (by decide)));have HEx:=V3 (fun(w':World) (hkp:AA (fun i=>i=g) w w')=>(BU.keep (Nat.le_of_lt hlt) (V6 _) hkp (fun i hi e=>by omega) _ _ hr0:BU w' g e (AC e vm vb (.slice A n c))));have HOn:=V3 (Fe hr0);have HTr:=V3 (fun(w':World) (hkp:AA (fun i=>i=g) w w')=>(hT.keep (Nat.le_of_lt hlt) (V6 _) hkp (fun i hi e=>by omega):JG w' g (.slice A n c) e.kids));clear hr hr0 hT hd hn hne hk hg0 hdn hls;have h2:=VW w 29 (AC e vm vb (.slice A n c)).toArray;have hb2:=hb.alloc (.cells (AC e vm vb (.slice A n c)).toArray 29);have k2:=(VU w).alloc (.cells (AC e vm vb (.slice A n c)).toArray 29);go_enter Tryz.func48,Tryz.ntmps48;go_upto_region 2 with fail;change Code.wp _ _ _ _ (((w.alloc (.cells (AC e vm vb (.slice A n c)).toArray 29)).alloc (.cells (Aa BO).toArray 51)).alloc (.cells (Aa BO++Aa BO).toArray 127));generalize hw1:w.alloc (.cells (AC e vm vb (.slice A n c)).toArray 29)=w1 at*;have s1:w1.heap.size=w.heap.size+1:=by rw[←hw1];simp
  clear hw1;have h3:=VW w1 51 (Aa BO).toArray;have hb3:=hb2.alloc (.cells (Aa BO).toArray 51);have h23:=h2.alloc (.cells (Aa BO).toArray 51);have k3:=k2.alloc (.cells (Aa BO).toArray 51);generalize hw2:w1.alloc (.cells (Aa BO).toArray 51)=w2 at*;have s2:w2.heap.size=w1.heap.size+1:=by rw[←hw2];simp
  clear hw2;have h4:=VW w2 127 (Aa BO++Aa BO).toArray;have hb4:=hb3.alloc (.cells (Aa BO++Aa BO).toArray 127);have h24:=h23.alloc (.cells (Aa BO++Aa BO).toArray 127);have h34:=h3.alloc (.cells (Aa BO++Aa BO).toArray 127);have k4:=k3.alloc (.cells (Aa BO++Aa BO).toArray 127);generalize w2.alloc (.cells (Aa BO++Aa BO).toArray 127)=w3 at*;obtain⟨y,hy⟩:∃y,w.heap.size=y:=⟨_,rfl⟩;rw[hy]at s1 h24 ⊢;rw[s1]at s2;obtain⟨z,hz⟩:∃k,y+1=k:=⟨_,rfl⟩;obtain⟨kk,hkk⟩:∃z,y+1+1=z:=⟨_,rfl⟩;rw[s1,hz]at h34;rw[s2,hkk]at h4
  first|rw[hkk]|rw[show y+2=kk from hkk]
  rw[hz];have HNe:=V3 (show z≠g∧w.heap.size≤z∧kk≠g∧y≠g∧kk≠y∧kk≠z∧w.heap.size≤kk from⟨by omega,by omega,by omega,by omega,by omega,by omega,by omega⟩);have HGW:=V3 hlt;have HX:=V3 h24;have HZ:=V3 h34;have HKu:=V3 h4;have HB:=V3 hb4;have HK:=V3 k4;have c10:w3.cell? ⟨y,10,none⟩=some (.slice A n c):=HX.out.cell 10;clear hb hb2 h2 k2 hy hz hkk s1 s2 h3 hb3 h23 k3 hlt hb4 h4 h24 h34 k4;go_wp2_with fail;clear c10;go_loopw [6,11] (fun _ i wr=>∃(j:Nat) (ua ub:Un),j≤n∧i= .int .i64 (j:Nat)∧AR wr kk 127 (Aa ua++Aa ub).toArray∧(∀m x,m<j→e.kids[m]? =some x→(vE 7 ds x).1.2=0∧(m=0→ua=(vE 7 ds x).1.1)∧(m=1→ub=(vE 7 ds x).1.1))∧AR wr g T (E9 dv 0).toArray∧AR wr y 29 (AC e vm vb (.slice A n c)).toArray∧AR wr z 51 (Aa BO).toArray∧AA (fun i=>i=g) w wr) (fun _ i _=>n-(intOf i).toNat)
  case atStart=>exact⟨0,BO,BO,by omega,rfl,HKu.out,fun m x h=>absurd h (by omega),HB.out,HX.out,HZ.out,HK.out.keeps⟩
  case round=>
   obtain⟨j,ua,ub,hj,rfl,hku,hall,hB,hX,hZ,hK⟩:=hrel;have HKr:=V3 hku;have HAl:=V3 hall;have HBr:=V3 hB;have HXr:=V3 hX;have HZr:=V3 hZ;have HKp:=V3 hK;have HSz:=V3 hK.size;clear hku hall hB hX hZ hK HX HZ HKu HB HK;by_cases hlt:j<n
   ·obtain⟨kid,hkid⟩:∃d,e.kids[j]? =some d:=⟨_,VB (by rw[←HN.out];exact hlt)⟩;obtain⟨hgk,hnk⟩:=HKd.out j kid hkid;obtain⟨b,o,ca,hA,hbl,hrg,hek⟩:=(HTr.out wr HKp.out).at_ hkid;subst hA;have hj2:j<2:=by omega
    have HRw:=V3 hrg;have HL:=V3 (BC hek);have HOk:=V3 (Fe hek);have HCl:=V3 (fun w' (hB:AR w' g T (E9 dv 0).toArray) (hg:A4 wr w')=>HRec.out kid hnk hgk w' ca hB (HKp.out.grew hg) (BU.keep (Nat.le_of_lt (by have:=HGW.out;have:=HSz.out;omega)) (V6 _) hg (fun _ _ h=>h) _ _ hek));have HKid:=V3 hkid;obtain⟨r,hr⟩:∃r,(vE 7 ds kid).1=r:=⟨_,rfl⟩;obtain⟨vu,er⟩:=r;rw[hr]at HCl;have HVr:=V3 hr;clear hkid hrg hek hgk hnk hbl hr;go_upto_region 5 with(first|((with_reducible refine AF 29 (.tmp 14) rfl ?_);refine wpList_load_mid rfl 29 (.tmp 14) rfl b (o+j*11) rfl (ca) _ HRw.out Tryz.underlying29 rfl (by rw[HL.out];exact AE) ?_)|((with_reducible refine AG 29 (.tmp 7) (.tmp 15) rfl ?_);refine BL 29 (.tmp 7) (.tmp 15) (wr.heap.size) ca (AJ 0 0) 29 (by rw[HL.out];exact AE) (by rw[HL.out];rfl) HOk.out rfl rfl rfl rfl (VW wr 29 _) ?_;intro w6 hb6 k6 d6;have g6:A4 wr w6:=VV ((VU wr).alloc _) k6 (fun i hi e=>by omega);have HB6:=V3 hb6;have HG6:=V3 g6;clear hb6 k6 d6 g6));obtain⟨zd,hzd⟩:∃z,wr.heap.size=z:=⟨_,rfl⟩;rw[hzd]at HB6 ⊢;clear hzd;go_upto_region 6 with(first|((with_reducible refine AF 29 (.tmp 7) rfl ?_);refine BZ 29 Tryz.underlying29 rfl (.tmp 7) zd (ca) 29 (by rw[HL.out];exact AE) rfl rfl rfl HB6.out ?_)|(go_at_call 48;(with_reducible refine(HCl.out _ (HBr.out.grew HG6.out) HG6.out).mono ?_);rintro e7 w7 ⟨rfl,hb7,k7⟩;have HB7:=V3 hb7;have HK7:=V3 (VV (HKp.out.grew HG6.out) k7 fun i _ h=>h);have HKu7:=V3 ((HKr.out.grew HG6.out).keep k7 HNe.out.2.2.1);have HX7:=V3 ((HXr.out.grew HG6.out).keep k7 HNe.out.2.2.2.1);have HZ7:=V3 ((HZr.out.grew HG6.out).keep k7 HNe.out.1);clear hb7 k7)|((with_reducible refine AG 51 (.tmp 20) (.tmp 19) rfl ?_);refine Uh 51 (.tmp 20) (.tmp 19) kk (j*3) (Aa vu) (Aa ua++Aa ub) 127 Ag (by show j*3+3≤6;omega) (B4 _) rfl rfl rfl rfl HKu7.out ?_;intro w8 hb8 k8;have HKu8:=V3 (UA ua ub vu j hj2▸hb8);have HB8:=V3 (HB7.out.keep k8 (fun e=>HNe.out.2.2.1 e.symm));have HX8:=V3 (HX7.out.keep k8 (fun e=>HNe.out.2.2.2.2.1 e.symm));have HZ8:=V3 (HZ7.out.keep k8 (fun e=>HNe.out.2.2.2.2.2.1 e.symm));have HK8:=V3 (VV HK7.out k8 fun i hi e=>by have:=HNe.out.2.2.2.2.2.2;omega);clear hb8 k8));have c1:w8.cell? ⟨g,1,none⟩=some (.int .i64 er):=HB8.out.cell 1;by_cases h0:er=0
    ·have t0:(er !=0)=false:=by simp[h0]
     have HE0:=V3 h0;clear h0;go_wp2_with fail;go_roundw
     case rel=>exact⟨j+1,_,_,by omega,by go_num,HKu8.out,fun m x hm hx=>by
      rcases Nat.lt_or_ge m j with h|h
      ·obtain⟨a1,a2,a3⟩:=HAl.out m x h hx;refine⟨a1,fun h0=>?_,fun h1=>?_⟩
       ·rw[VM (by omega)];exact a2 h0
       omega
      obtain rfl:m=j:=by omega
      rw[HKid.out]at hx;injection hx with hx;rw[←hx,HVr.out];refine⟨HE0.out,fun h0=>?_,fun h1=>?_⟩
      ·rw[VN h0]
      rw[VM (by omega)],by have h:=HB8.out;rw[HE0.out]at h;exact h,HX8.out,HZ8.out,HK8.out⟩
     case measure=>simp[intOf];omega
    have t0:(er !=0)=true:=by simp[h0]
    have HT:=V3 (show(vE 7 ds e).1=(BO,er) by
     have h:=Rg (ds:=ds) HGd.out HKid.out (fun i x hi hx=>(HAl.out i x hi hx).1) (by rw[HVr.out];exact h0);rw[HVr.out]at h;exact h)
    clear h0;go_wp2_with((with_reducible refine AG 51 (.tmp 4) (.tmp 27) rfl ?_);refine BL 51 (.tmp 4) (.tmp 27) z (Aa BO) (Aa BO) 51 Ag rfl (B4 _) rfl rfl rfl rfl HZ8.out ?_;intro w9 hbw9 kw9 dw9;have HZ9:=V3 hbw9;have HB9:=V3 (HB8.out.keep kw9 (fun e=>HNe.out.1 e.symm));have HK9:=V3 (VV HK8.out kw9 fun i hi e=>by have:=HNe.out.2.1;omega);clear hbw9 kw9 dw9);refine bodyPost_ret (AO rfl rfl Ag Tryz.underlying51 rfl HZ9.out) rfl ?_;rw[HT.out];exact⟨rfl,HB9.out,HK9.out⟩
   obtain rfl:n=j:=by omega
   obtain⟨wo,rfl⟩:∃x,x=wr:=⟨wr,rfl⟩;have c0:wo.cell? ⟨y,0,none⟩=some (.int .i64 e.kind):=HXr.out.cell 0;have c1:wo.cell? ⟨y,1,none⟩=some (.int .i64 e.fn):=HXr.out.cell 1;have c10:wo.cell? ⟨y,10,none⟩=some (.slice A n c):=HXr.out.cell 10;have hnn:=HN.out;have hwv:∀m x,e.kids[m]? =some x→(vE 7 ds x).1.2=0∧(m=0→ua=(vE 7 ds x).1.1)∧(m=1→ub=(vE 7 ds x).1.1)∧Cl (vE 7 ds x).1.1=true:=fun m x hx=>by
    obtain⟨a1,a2,a3⟩:=HAl.out m x (by rw[HN.out];exact(VG.1 hx).1) hx;exact⟨a1,a2,a3,((HKd.out m x hx).1.wv (by decide)).1 a1⟩
   rcases FK HGd.out.top.2 with⟨h0,hks⟩|⟨h0,hks⟩|⟨h0,ea,hks⟩|⟨h0,ea,eb,hks⟩
   ·have HT:=V3 (show(vE 7 ds e).1=(BO,0) by rw[DV h0];rfl);have t1:(e.kind==1)=false:=by rw[h0];rfl
    have t2:(e.kind==2)=false:=by rw[h0];rfl
    have t3:(e.kind==3)=false:=by rw[h0];rfl
    clear h0 hks hwv hnn HAl;go_wp2_with((with_reducible refine AG 51 (.tmp 4) (.tmp 59) rfl ?_);refine BL 51 (.tmp 4) (.tmp 59) z (Aa BO) (Aa BO) 51 Ag rfl (B4 _) rfl rfl rfl rfl HZr.out ?_;intro w9 hbw9 kw9 dw9;have HZ9:=V3 hbw9;have HB9:=V3 (HBr.out.keep kw9 (fun e=>HNe.out.1 e.symm));have HK9:=V3 (VV HKp.out kw9 fun i hi e=>by have:=HNe.out.2.1;omega);clear hbw9 kw9 dw9);refine bodyPost_ret (AO rfl rfl Ag Tryz.underlying51 rfl HZ9.out) rfl ?_;rw[HT.out];exact⟨rfl,HB9.out,HK9.out⟩
   ·have HT:=V3 (show(vE 7 ds e).1=DJ 7 ds e by rw[H9 h0]);have t1:(e.kind==1)=true:=by rw[VC];exact h0
    clear h0 hks hwv hnn HAl;go_wp2_with(first|((with_reducible refine AF 29 (.tmp 3) rfl ?_);refine BZ 29 Tryz.underlying29 rfl (.tmp 3) y (AC e vm vb (.slice A n c)) 29 AE rfl rfl rfl HXr.out ?_)|(go_at_call 78;(with_reducible refine(HSel.out _ HBr.out HKp.out).mono ?_);rintro e7 w7 ⟨rfl,hb7,k7⟩;have HB7:=V3 hb7;have HZ7:=V3 (HZr.out.keep k7 HNe.out.1);have HK7:=V3 (VV HKp.out k7 fun i _ h=>h);clear hb7 k7)|((with_reducible refine AG 51 (.tmp 4) (.tmp 35) rfl ?_);refine BL 51 (.tmp 4) (.tmp 35) z (Aa (DJ 7 ds e).1) (Aa BO) 51 Ag rfl (B4 _) rfl rfl rfl rfl HZ7.out ?_;intro w9 hbw9 kw9 dw9;have HZ9:=V3 hbw9;have HB9:=V3 (HB7.out.keep kw9 (fun e=>HNe.out.1 e.symm));have HK9:=V3 (VV HK7.out kw9 fun i hi e=>by have:=HNe.out.2.1;omega);clear hbw9 kw9 dw9));refine bodyPost_ret (AO rfl rfl Ag Tryz.underlying51 rfl HZ9.out) rfl ?_;rw[HT.out];exact⟨rfl,HB9.out,HK9.out⟩
   ·have t1:(e.kind==1)=false:=by rw[h0];rfl
    have t2:(e.kind==2)=true:=by rw[VC];exact h0
    have h1n:n=1:=by rw[hnn,hks];rfl
    subst h1n;have hka:e.kids[0]? =some ea:=by rw[hks];rfl
    obtain⟨a1,a2, -, -⟩:=hwv 0 ea hka;have ga:=(HKd.out 0 ea hka).1;obtain⟨b,o,ca,hA,hbl,hrg,hek⟩:=(HTr.out wo HKp.out).at_ hka;subst hA;have HRw:=V3 (show wo.rangeAt b o ca by simpa using hrg);have HL:=V3 (BC hek);have hgw:g≤wo.heap.size:=by have:=HGW.out;have:=HSz.out;omega
    have HA:=V3 (CL (AH ea) ea (V6 _) (Dg ga) wo ca (BU.keep hgw hgw (VU wo) (fun _ _ h=>h) _ _ hek));obtain⟨x,hx⟩:∃x,BJ ea=x:=⟨_,rfl⟩;rw[hx]at HA;have HT0:=V3 (show(vE 7 ds e).1=if x=true then(BO,7)else if e.fn=3 then(BO,0)else(ua,0) by
     rw[F5 h0 hks,←hx,←ga.vrow (ET:=7) (ds:=ds),a2 rfl];unfold Oq;dsimp only;rw[VM (not_not_intro a1)];split
     ·rfl
     split
     ·rfl
     rw[←a1])
    clear h0 hks hwv hnn HAl hka a1 a2 ga hbl hrg hek hx;go_upto_if 42 with(first|((with_reducible refine AF 29 (.tmp 40) rfl ?_);refine wpList_load_mid rfl 29 (.tmp 40) rfl b (o) rfl (ca) _ HRw.out Tryz.underlying29 rfl (by rw[HL.out];exact AE) ?_)|(go_at_call 49;(with_reducible refine HA.out.mono ?_);rintro e5 w5 ⟨rfl,k5⟩;have HB5:=V3 (HBr.out.grew k5);have HZ5:=V3 (HZr.out.grew k5);have HK5:=V3 (HKp.out.grew k5);have HKu5:=V3 (HKr.out.grew k5);have d1:w5.cell? ⟨y,1,none⟩=some (.int .i64 e.fn):=(HXr.out.grew k5).cell 1;clear k5));cases x
    ·by_cases h3:e.fn=3
     ·have t3:(e.fn==3)=true:=by rw[VC];exact h3
      have HT:=V3 (HT0.out.trans ((VM (by decide)).trans (VN h3)));clear h3;go_wp2_with((with_reducible refine AG 51 (.tmp 4) (.tmp 50) rfl ?_);refine BL 51 (.tmp 4) (.tmp 50) z (Aa BO) (Aa BO) 51 Ag rfl (B4 _) rfl rfl rfl rfl HZ5.out ?_;intro w9 hbw9 kw9 dw9;have HZ9:=V3 hbw9;have HB9:=V3 (HB5.out.keep kw9 (fun e=>HNe.out.1 e.symm));have HK9:=V3 (VV HK5.out kw9 fun i hi e=>by have:=HNe.out.2.1;omega);clear hbw9 kw9 dw9);refine bodyPost_ret (AO rfl rfl Ag Tryz.underlying51 rfl HZ9.out) rfl ?_;rw[HT.out];exact⟨rfl,HB9.out,HK9.out⟩
     have t3:(e.fn==3)=false:=by rw[V4];exact h3
     have HT:=V3 (HT0.out.trans ((VM (by decide)).trans (VM h3)));clear h3;go_wp2_with(first|((with_reducible refine AF 51 (.tmp 51) rfl ?_);refine wpList_load_mid rfl 51 (.tmp 51) rfl kk (0) rfl (Aa ua) _ (HKu5.out.rangeN 0 (Aa ua) rfl) Tryz.underlying51 rfl Ag ?_)|((with_reducible refine AG 51 (.tmp 4) (.tmp 52) rfl ?_);refine BL 51 (.tmp 4) (.tmp 52) z (Aa ua) (Aa BO) 51 Ag rfl (B4 _) rfl rfl rfl rfl HZ5.out ?_;intro w9 hbw9 kw9 dw9;have HZ9:=V3 hbw9;have HB9:=V3 (HB5.out.keep kw9 (fun e=>HNe.out.1 e.symm));have HK9:=V3 (VV HK5.out kw9 fun i hi e=>by have:=HNe.out.2.1;omega);clear hbw9 kw9 dw9));refine bodyPost_ret (AO rfl rfl Ag Tryz.underlying51 rfl HZ9.out) rfl ?_;rw[HT.out];exact⟨rfl,HB9.out,HK9.out⟩
    have HT:=V3 (HT0.out.trans (VN rfl));go_wp2_with(first|(go_at_call 79;(with_reducible refine(DN g T dv 7 _ HB5.out).mono ?_);rintro e8 w8 ⟨rfl,hb8,k8⟩;have HB8:=V3 hb8;have HZ8:=V3 (HZ5.out.keep k8 HNe.out.1);have HK8:=V3 (VV HK5.out k8 fun i _ h=>h);clear hb8 k8)|((with_reducible refine AG 51 (.tmp 4) (.tmp 46) rfl ?_);refine BL 51 (.tmp 4) (.tmp 46) z (Aa BO) (Aa BO) 51 Ag rfl (B4 _) rfl rfl rfl rfl HZ8.out ?_;intro w9 hbw9 kw9 dw9;have HZ9:=V3 hbw9;have HB9:=V3 (HB8.out.keep kw9 (fun e=>HNe.out.1 e.symm));have HK9:=V3 (VV HK8.out kw9 fun i hi e=>by have:=HNe.out.2.1;omega);clear hbw9 kw9 dw9));refine bodyPost_ret (AO rfl rfl Ag Tryz.underlying51 rfl HZ9.out) rfl ?_;rw[HT.out];exact⟨rfl,HB9.out,HK9.out⟩
   have t1:(e.kind==1)=false:=by rw[h0];rfl
   have t2:(e.kind==2)=false:=by rw[h0];rfl
   have t3:(e.kind==3)=true:=by rw[VC];exact h0
   have hka:e.kids[0]? =some ea:=by rw[hks];rfl
   have hkb:e.kids[1]? =some eb:=by rw[hks];rfl
   obtain⟨a1,a2, -,a4⟩:=hwv 0 ea hka;obtain⟨b1, -,b3,b4⟩:=hwv 1 eb hkb;have ga:=(HKd.out 0 ea hka).1;have gb:=(HKd.out 1 eb hkb).1;have HT:=V3 (show(vE 7 ds e).1=Ej 7 e.fn (BJ ea) (BJ eb) (vE 7 ds ea).2.2 (vE 7 ds eb).2.2 ua ub by
    rw[Dr h0 hks,←ga.vrow (ET:=7) (ds:=ds),←gb.vrow (ET:=7) (ds:=ds),a2 rfl,b3 rfl];unfold Bx;dsimp only;rw[VM (not_not_intro a1),VM (not_not_intro b1)])
   have HBi:=V3 (PX g T dv ds e ea eb hks ga gb ua ub (by rw[a2 rfl];exact a4) (by rw[b3 rfl];exact b4) wo (AC e vm vb (.slice A n c)) HBr.out (HEx.out wo HKp.out));clear h0 hks hwv hnn HAl hka hkb a1 a2 a4 b1 b3 b4 ga gb;go_wp2_with(first|((with_reducible refine AF 29 (.tmp 3) rfl ?_);refine BZ 29 Tryz.underlying29 rfl (.tmp 3) y (AC e vm vb (.slice A n c)) 29 AE rfl rfl rfl HXr.out ?_)|((with_reducible refine AF 127 (.tmp 5) rfl ?_);refine BZ 127 Tryz.underlying127 rfl (.tmp 5) kk (Aa ua++Aa ub) 127 Ph rfl rfl rfl HKr.out ?_)|(go_at_call 80;(with_reducible refine HBi.out.mono ?_);rintro e7 w7 ⟨rfl,hb7,k7⟩;have HB7:=V3 hb7;have HZ7:=V3 (HZr.out.keep k7 HNe.out.1);have HK7:=V3 (VV HKp.out k7 fun i _ h=>h);clear hb7 k7)|((with_reducible refine AG 51 (.tmp 4) (.tmp 58) rfl ?_);refine BL 51 (.tmp 4) (.tmp 58) z (Aa (Ej 7 e.fn (BJ ea) (BJ eb) (vE 7 ds ea).2.2 (vE 7 ds eb).2.2 ua ub).1) (Aa BO) 51 Ag rfl (B4 _) rfl rfl rfl rfl HZ7.out ?_;intro w9 hbw9 kw9 dw9;have HZ9:=V3 hbw9;have HB9:=V3 (HB7.out.keep kw9 (fun e=>HNe.out.1 e.symm));have HK9:=V3 (VV HK7.out kw9 fun i hi e=>by have:=HNe.out.2.1;omega);clear hbw9 kw9 dw9));refine bodyPost_ret (AO rfl rfl Ag Tryz.underlying51 rfl HZ9.out) rfl ?_;rw[HT.out];exact⟨rfl,HB9.out,HK9.out⟩
theorem Nt (ds:List Du) (hdn:ds.length≤1000) (hls:∀d∈ds,d.1.2.length≤1000000) (e:Ex) (hg0:Be e) (hn:AH e≤200) (hv:DP e=0) (w:World) (dv:Value) (cs:List Value) (hwt:DI w) (hd:GZ Lg 12 w (fun b=>b<w.heap.size) dv ds) (hr:BU w w.heap.size e cs):
  Calls Tryz.prog 24 #[dv,.agg cs.toArray] w fun e' w'=>∃u,e'= .returned (.tuple #[.agg (Aa u).toArray,.int .i64 (vE 7 ds e).1.2])∧((vE 7 ds e).1.2=0→u=(vE 7 ds e).1.1)∧A4 w w':=by
 have HVd:=V3 (fun w' (g:A4 w w')=>FG e (by omega) (BW.mono (fun _ h=>h.1) (AH e) e (V6 _) hg0) w' cs (hwt.grew g) (hr.grew g));rw[hv]at HVd;obtain⟨A,n,c,rfl, -, -⟩:=hd.slice;have HL:=V3 (BC hr);have HU:=V3 (fun(g:Nat) (T:TypeId) (w':World) (hb:AR w' g T (E9 (.slice A n c) 0).toArray) (hle:w.heap.size≤g) (hk:A4 w w')=>Ke ds hdn hls (AH e) e (V6 _) hg0 g T (.slice A n c) w' cs hb (hd.keep (S:=fun _=>False) Io (fun b hb=>⟨hb,fun h=>h,VA hb hle⟩) hk) (BU.keep (V6 _) hle hk (fun _ _ h=>h) _ _ hr));clear hwt hd hr hg0 hn hv hdn hls;obtain⟨r,hr⟩:∃r,(vE 7 ds e).1=r:=⟨_,rfl⟩;obtain⟨vu,er⟩:=r;rw[hr]at HU ⊢;clear hr;have h2:=VW w 29 cs.toArray;have k2:=(VU w).alloc (.cells cs.toArray 29);go_enter Tryz.func24,Tryz.ntmps24;go_upto_region 1 with fail;change Code.wp _ _ _ _ ((w.alloc (.cells cs.toArray 29)).alloc (.cells (Aa BO).toArray 51));generalize hw1:w.alloc (.cells cs.toArray 29)=w1 at*;have s1:w1.heap.size=w.heap.size+1:=by rw[←hw1];simp
 clear hw1;have h3:=VW w1 51 (Aa BO).toArray;have h23:=h2.alloc (.cells (Aa BO).toArray 51);have k3:=k2.alloc (.cells (Aa BO).toArray 51);generalize w1.alloc (.cells (Aa BO).toArray 51)=w2 at*;obtain⟨y,hy⟩:∃y,w.heap.size=y:=⟨_,rfl⟩;rw[hy]at s1 h23 ⊢;obtain⟨z,hz⟩:∃z,y+1=z:=⟨_,rfl⟩;rw[s1,hz]at h3;rw[hz];have HNe:=V3 (show w.heap.size≤z from by omega);have HX:=V3 h23;have HZ:=V3 h3;have HK:=V3 k3;clear h2 k2 hy hz s1 h3 h23 k3;go_upto_region 5 with(first|((with_reducible refine AF 29 (.tmp 3) rfl ?_);refine BZ 29 Tryz.underlying29 rfl (.tmp 3) y (cs) 29 (by rw[HL.out];exact AE) rfl rfl rfl HX.out ?_)|(go_at_call 12;(with_reducible refine(HVd.out _ HK.out).mono ?_);rintro e3 w3 ⟨rfl,k3⟩;have HK3:=V3 (HK.out.trans k3);have HX3:=V3 (HX.out.grew k3);have HZ3:=V3 (HZ.out.grew k3);clear k3));change Code.wp _ _ _ _ (w3.alloc (.cells (E9 (.slice A n c) 0).toArray 95));have hb4:=VW w3 95 (E9 (.slice A n c) 0).toArray;have k4:=HK3.out.alloc (.cells (E9 (.slice A n c) 0).toArray 95);have hx4:=HX3.out.alloc (.cells (E9 (.slice A n c) 0).toArray 95);have hz4:=HZ3.out.alloc (.cells (E9 (.slice A n c) 0).toArray 95);have hgz:=HZ3.out.lt;have hgw:=HK3.out.size;generalize w3.alloc (.cells (E9 (.slice A n c) 0).toArray 95)=w4 at*;obtain⟨gg,hgg⟩:∃g,w3.heap.size=g:=⟨_,rfl⟩;rw[hgg]at hb4 hgz hgw ⊢;have HNz:=V3 (show z≠gg from by omega);have HGw:=V3 hgw;have HX4:=V3 hx4;have HZ4:=V3 hz4;have HK4:=V3 k4;have HCl:=V3 (HU.out gg _ w4 hb4 hgw k4);clear hb4 k4 hx4 hz4 hgz hgw hgg HX HZ HK HX3 HZ3 HK3 HU HVd;go_upto_region 6 with(first|((with_reducible refine AF 29 (.tmp 3) rfl ?_);refine BZ 29 Tryz.underlying29 rfl (.tmp 3) y (cs) 29 (by rw[HL.out];exact AE) rfl rfl rfl HX4.out ?_)|(go_at_call 48;(with_reducible refine HCl.out.mono ?_);rintro e5 w5 ⟨rfl,hb5,k5⟩;have HB5:=V3 hb5;have HZ5:=V3 (HZ4.out.keep k5 HNz.out);have HK5:=V3 (VV HK4.out k5 fun i hi e=>by have:=HGw.out;omega);clear hb5 k5)|((with_reducible refine AG 51 (.tmp 8) (.tmp 21) rfl ?_);refine BL 51 (.tmp 8) (.tmp 21) w5.heap.size (Aa vu) (Aa BO) 51 Ag rfl (B4 _) rfl rfl rfl rfl (VW w5 51 _) ?_;intro w8 hbw8 kw8 dw8;have g8:A4 w5 w8:=VV ((VU w5).alloc _) kw8 (fun i hi e=>by omega);have HT8:=V3 hbw8;have HB8:=V3 (HB5.out.grew g8);have HZ8:=V3 (HZ5.out.grew g8);have HK8:=V3 (HK5.out.trans g8);clear g8;clear hbw8 kw8 dw8));have c1:w8.cell? ⟨gg,1,none⟩=some (.int .i64 er):=HB8.out.cell 1;obtain⟨z8,hz8⟩:∃z,w5.heap.size=z:=⟨_,rfl⟩;rw[hz8]at HT8 ⊢;clear hz8;by_cases h0:er=0
 ·have t0:(er !=0)=false:=by simp[h0]
  have HE0:=V3 h0;clear h0;go_wp2_with(first|((with_reducible refine AF 51 (.tmp 8) rfl ?_);refine BZ 51 Tryz.underlying51 rfl (.tmp 8) z8 (Aa vu) 51 Ag rfl rfl rfl HT8.out ?_)|((with_reducible refine AG 51 (.tmp 4) (.tmp 34) rfl ?_);refine BL 51 (.tmp 4) (.tmp 34) z (Aa vu) (Aa BO) 51 Ag rfl (B4 _) rfl rfl rfl rfl HZ8.out ?_;intro w9 hbw9 kw9 dw9;have HZ9:=V3 hbw9;have HK9:=V3 (VV HK8.out kw9 fun i hi e=>by have:=HNe.out;omega);clear hbw9 kw9 dw9));refine bodyPost_ret (Au rfl rfl rfl Ag Tryz.underlying51 rfl HZ9.out) rfl ?_;rw[HE0.out];exact⟨vu,rfl,fun _=>rfl,HK9.out⟩
 have t0:(er !=0)=true:=by simp[h0]
 have HE0:=V3 h0;clear h0;go_upto_region 7 with fail;have gd:A4 w8 w8.drew:=VX (VU w8);have hc7:w8.drew.cell? ⟨gg,1,none⟩=some (.int .i64 er):=(HB8.out.grew gd).cell 1;refine C6 [(7,fun w'=>w'.cell? ⟨gg,1,none⟩=some (.int .i64 er))] (by kernel_rfl) (by intro pp hp;obtain rfl:=VF.1 hp;exact hc7) ?_;intro hcl hkn
 try simp only[List.getElem_toArray,List.getElem_cons_zero,List.getElem_cons_succ,Act.put,List.setIfInBounds_toArray,List.set_cons_zero,List.set_cons_succ]
 refine' AV (i:=0) (v:= .agg (Aa BO).toArray) rfl (by kernel_rfl) (by kernel_rfl) (by kernel_rfl) hcl hkn (by rfl) (fun _ _ _ h=>h) rfl ?_ ?_
 ·intro w';go_simp;rfl
 clear hcl hkn;intro hcl hkn
 try simp only[List.getElem_toArray,List.getElem_cons_zero,List.getElem_cons_succ,Act.put,List.setIfInBounds_toArray,List.set_cons_zero,List.set_cons_succ]
 refine' AV (i:=1) (v:=_) rfl (by kernel_rfl) (by kernel_rfl) (by kernel_rfl) hcl hkn (by rfl) (fun _ _ _ h=>h) rfl ?_ ?_
 rotate_left
 ·intro w';go_simp;try with_reducible rfl
 clear hcl hkn;intro hcl hkn
 try simp only[List.getElem_toArray,List.getElem_cons_zero,List.getElem_cons_succ,Act.put,List.setIfInBounds_toArray,List.set_cons_zero,List.set_cons_succ]
 refine' AV (i:=2) (v:=_) rfl (by kernel_rfl) (by kernel_rfl) (by kernel_rfl) hcl hkn (by rfl) (fun _ _ _ h=>h) rfl ?_ ?_
 rotate_left
 ·intro w';go_simp;try with_reducible rfl
 clear hcl hkn;intro hcl hkn
 try simp only[List.getElem_toArray,List.getElem_cons_zero,List.getElem_cons_succ,Act.put,List.setIfInBounds_toArray,List.set_cons_zero,List.set_cons_succ]
 refine' AV (i:=3) (v:=_) rfl (by kernel_rfl) (by kernel_rfl) (by kernel_rfl) hcl hkn (by rfl) (fun _ _ _ h=>h) rfl ?_ ?_
 rotate_left
 ·intro w';go_simp;try with_reducible rfl
 clear hcl hkn;intro hcl hkn
 try simp only[List.getElem_toArray,List.getElem_cons_zero,List.getElem_cons_succ,Act.put,List.setIfInBounds_toArray,List.set_cons_zero,List.set_cons_succ]
 refine' AV (i:=4) (v:=_) rfl (by kernel_rfl) (by kernel_rfl) (by kernel_rfl) hcl hkn (by rfl) (fun _ _ _ h=>h) rfl ?_ ?_
 rotate_left
 ·intro w';go_simp;try with_reducible rfl
 clear hcl hkn;intro hcl hkn
 try simp only[List.getElem_toArray,List.getElem_cons_zero,List.getElem_cons_succ,Act.put,List.setIfInBounds_toArray,List.set_cons_zero,List.set_cons_succ]
 refine' BK [] 7 _ (i:=5) (v:=_) rfl (by kernel_rfl) (by kernel_rfl) (by kernel_rfl) hcl hkn (by rfl) 0 rfl (by kernel_rfl) (fun _ _ _ h=>h) rfl ?_ ?_
 rotate_left
 ·intro w' hA;have hc:=hA;go_simp;try with_reducible rfl
 clear hcl hkn;intro hcl hkn
 try simp only[List.getElem_toArray,List.getElem_cons_zero,List.getElem_cons_succ,Act.put,List.setIfInBounds_toArray,List.set_cons_zero,List.set_cons_succ]
 refine BF hcl (i:=6) (by kernel_rfl) rfl rfl (fun K hK=>?_);refine EU 51 (.tmp 4) (.tmp 28) z (Aa BO) (Aa BO) 51 Ag rfl (B4 _) rfl rfl rfl (HZ8.out.grew gd) ?_;intro w9 hb9 k9;refine hK _ _ (Aw (.inr (((HB8.out.grew gd).keep k9 (fun e=>HNz.out e.symm)).cell 1))) ?_;clear hK K;clear hcl hkn;intro hcl hkn
 try simp only[List.getElem_toArray,List.getElem_cons_zero,List.getElem_cons_succ,Act.put,List.setIfInBounds_toArray,List.set_cons_zero,List.set_cons_succ]
 refine BF hcl (i:=7) (by kernel_rfl) rfl rfl (fun K hK=>?_);go_simp;refine hK _ _ (Aw (.inl (by kernel_rfl))) ?_;clear hK K;clear hcl hkn;intro hcl hkn
 try simp only[List.getElem_toArray,List.getElem_cons_zero,List.getElem_cons_succ,Act.put,List.setIfInBounds_toArray,List.set_cons_zero,List.set_cons_succ]
 refine Ca (by kernel_rfl) ?_ _;clear hcl hkn;have HZ9:=V3 hb9;have HK9:=V3 (VV (HK8.out.trans gd) k9 fun i hi e=>by have:=HNe.out;omega);clear hb9 k9;go_wp2_with fail;refine bodyPost_ret (Au rfl rfl rfl Ag Tryz.underlying51 rfl HZ9.out) rfl ?_;exact⟨BO,rfl,fun h=>absurd h HE0.out,HK9.out⟩
theorem Ns (ET:Int) (ds:List Du) (hE:ET≠0) (e:Ex) (hg0:Be e) (hn:AH e≤200) (hv:DP e=0) (w:World) (cs:List Value) (hwt:DI w) (hr:BU w w.heap.size e cs):
  Calls Tryz.prog 25 #[.agg cs.toArray] w fun e' w'=>∃v,e'= .returned (.tuple #[v,.bool (BJ e)])∧Ba w' (fun b=>b<w'.heap.size) 1 v ((vE ET ds e).2.2.map fun s=>[Value.string s])∧A4 w w':=by
 have HVd:=V3 (fun w' (g:A4 w w')=>FG e (by omega) (BW.mono (fun _ h=>h.1) (AH e) e (V6 _) hg0) w' cs (hwt.grew g) (hr.grew g));rw[hv]at HVd;have HRo:=V3 (fun w' (g:A4 w w')=>CL (AH e) e (V6 _) (Dg hg0) w' cs (hr.grew g));have HRs:=V3 (fun(h:BJ e=false) w' (g:A4 w w')=>Ef ET ds (AH e) e (V6 _) hg0 h w' cs (hr.grew g));have HL:=V3 (BC hr);have hnil:BJ e=true→(vE ET ds e).2.2=[]:=fun h=>(hg0.wv hE).2 (by rw[hg0.vrow];exact h)
 have hb:=VW w 29 cs.toArray;have hg:=(VU w).alloc (.cells cs.toArray 29);obtain⟨x,hx⟩:∃x,BJ e=x:=⟨_,rfl⟩;rw[hx]at HRo HRs hnil ⊢;clear hv hwt hr hn hg0 hx;go_enter Tryz.func25,Tryz.ntmps25;go_upto_region 1 with fail;change Code.wp _ _ _ _ (w.alloc (.cells cs.toArray 29));generalize w.alloc (.cells cs.toArray 29)=w1 at*;have HG:=V3 hg;have HB:=V3 hb;clear hg hb;rcases x with _|_
 ·have HRs2:=V3 (HRs.out rfl);clear HRs hnil;go_wp2_with(first|((with_reducible refine AF 29 (.tmp 1) rfl ?_);refine BZ 29 Tryz.underlying29 rfl (.tmp 1) (w.heap.size) cs 29 (by rw[HL.out];exact AE) rfl rfl rfl HB.out ?_)|(go_at_call 12;(with_reducible refine(HVd.out _ HG.out).mono ?_);rintro e2 w2 ⟨rfl,k2⟩;have HG2:=V3 (HG.out.trans k2);have HB2:=V3 (HB.out.grew k2);clear k2)|((with_reducible refine AF 29 (.tmp 1) rfl ?_);refine BZ 29 Tryz.underlying29 rfl (.tmp 1) (w.heap.size) cs 29 (by rw[HL.out];exact AE) rfl rfl rfl HB2.out ?_)|(go_at_call 49;(with_reducible refine(HRo.out _ HG2.out).mono ?_);rintro e3 w3 ⟨rfl,k3⟩;have HG3:=V3 (HG2.out.trans k3);have HB3:=V3 (HB2.out.grew k3);clear k3)|((with_reducible refine AF 29 (.tmp 1) rfl ?_);refine BZ 29 Tryz.underlying29 rfl (.tmp 1) (w.heap.size) cs 29 (by rw[HL.out];exact AE) rfl rfl rfl HB3.out ?_)|(go_at_call 50;(with_reducible refine(HRs2.out _ HG3.out).mono ?_);rintro e4 w4 ⟨v4,rfl,h4,k4⟩;have H4:=V3 h4;have HG4:=V3 (HG3.out.trans k4);clear h4 k4));go_ret2;exact⟨_,rfl,H4.out,HG4.out⟩
 have hn2:=hnil rfl;have HN:=V3 hn2;clear HRs hnil hn2;go_wp2_with(first|((with_reducible refine AF 29 (.tmp 1) rfl ?_);refine BZ 29 Tryz.underlying29 rfl (.tmp 1) (w.heap.size) cs 29 (by rw[HL.out];exact AE) rfl rfl rfl HB.out ?_)|(go_at_call 12;(with_reducible refine(HVd.out _ HG.out).mono ?_);rintro e2 w2 ⟨rfl,k2⟩;have HG2:=V3 (HG.out.trans k2);have HB2:=V3 (HB.out.grew k2);clear k2)|((with_reducible refine AF 29 (.tmp 1) rfl ?_);refine BZ 29 Tryz.underlying29 rfl (.tmp 1) (w.heap.size) cs 29 (by rw[HL.out];exact AE) rfl rfl rfl HB2.out ?_)|(go_at_call 49;(with_reducible refine(HRo.out _ HG2.out).mono ?_);rintro e3 w3 ⟨rfl,k3⟩;have HG3:=V3 (HG2.out.trans k3);have HB3:=V3 (HB2.out.grew k3);clear k3));go_ret2;exact⟨_,rfl,by rw[HN.out];exact Ba.nil _ _ _,HG3.out⟩
end Go.Proofs.YthpflelgbadkcaaGreatDoor
