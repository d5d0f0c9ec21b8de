/- What the card of the law stands on: Clone2, Sep, PFoldT, GenA, TreeX. -/
import Derived.Test.YtkclnhpofkaclaaGreatDoorRewriteFoldP13
import Derived.Test.YtkclnhpofkaclaaGreatDoorRewriteFoldP16
import Derived.Lib.LazyBuf
import Derived.Test.YtkclnhpofkaclaaGreatDoorRewriteFoldP15
import Derived.Test.YtkclnhpofkaclaaGreatDoorRewriteFoldP01
import Derived.Test.YtkclnhpofkaclaaGreatDoorRewriteFoldP04
import Derived.Test.YtkclnhpofkaclaaGreatDoorRewriteFoldP25
import Derived.Test.YtkclnhpofkaclaaGreatDoorRewriteFoldP14
import Derived.Deep.DeepCutAuto
set_option maxRecDepth 100000
set_option maxHeartbeats 12800000
set_option linter.unusedVariables false
set_option linter.unusedSimpArgs false
namespace Go.Proofs.YtkclnhpofkaclaaGreatDoor
open Go.RowKit Pl
def Jc (w:World) (sz:Nat) (rows:List (List Value)) (e:Ending) (w':World):Prop:=∃v,e= .returned v∧BE w' (fun b=>w.heap.size≤b∧b<w'.heap.size) sz v rows∧A5 w w'
theorem FX {P:Program} {t e:TypeId} {sz bytes:Nat} {z:Value} {w:World} {base:Nat} {v sv:Value} {rows news:List (List Value)} {ops:Array Oper} {rest:List Oper} {o:Oper} {a:Act} {Q:Exit→Act→World→Prop} (T:Kg P t e sz bytes z) (hgd:o.guard=none) (s x:Operand)
  (ho:o.op= .call { callee:= .builtin .append,args:=#[s,x],argTypes:=#[t,t] })
  (hs:a.eval s=v) (hown:AX w base e sz v rows) (hx:a.eval x=sv) {B:Nat} (hr:Bs w B sz sv news) (hev:E4 sz news) (h1:∀r∈news,∀u∈r,u.oneCell'=true)
  (hn:rows.length+news.length≤1099511627) (hbase:base≤w.heap.size)
  (h:∀v' w',AX w' base e sz v' (rows++news)→A4 (fun i=>v.ownBlock=some i) w w'→wpList P ops Q rest (a.put o.dst v') w'):wpList P ops Q (o::rest) a w:=by
 refine wpList_plain hgd fun K hK=>?_
 obtain⟨v',w',hrun,h2,h3,h4⟩:=EK (P:=P) T o.type hown hr hev h1 hn hbase;unfold Oper.wp execOp;simp only[ho,resolve,invoke,builtin,Sem.run_bind,Sem.run_pure,Result.andThen_ok,List.map_toArray,List.map_cons,List.map_nil,hs,hx,hrun];exact hK _ _ (h v' w' h2 h3)
theorem T9:Kg Tryz.prog 25 59 3 40 (.agg #[.string ⟨#[]⟩,.int .i64 0,.string ⟨#[]⟩]):=⟨Tryz.underlying25,by kernel_rfl,rfl,by decide,by decide⟩
theorem Mu (v:Value) (rows:List (List Value)) (w:World) (h:Bs w w.heap.size 3 v rows) (hev:E4 3 rows) (h1:∀r∈rows,∀u∈r,u.oneCell'=true) (hn:rows.length≤1000000):Calls Tryz.prog 31 #[v] w (Jc w 3 rows):=by
 obtain⟨A,c,rfl,hc,hx⟩:=h;obtain⟨n,hnn⟩:∃n,rows.length=n:=⟨_,rfl⟩;have hrd:∀w',A5 w w'→Bs w' w'.heap.size 3 (.slice A rows.length c) rows:=fun w' g=>Bs.keep (B:=w.heap.size) ⟨A,c,rfl,hc,hx⟩ (Ua _) g.size g (fun _ _ h=>h)
 rw[hnn]at hc hx hrd;have HN:=UX hnn;have HX:=UX hx;have HRD:=UX hrd;have HEV:=UX (UZ hev h1);clear hx hev h1 hrd;rw[hnn];clear hnn;go_enter Tryz.func31,Tryz.ntmps31;have heq:=fun w=>run_eql_slice_nil (P:=Tryz.prog) w 25 59 A n c Tryz.underlying25
 rcases A with _|ad
 ·have HR0:=UX (show rows=[]from by
   rcases hr:rows with _|⟨r,rs⟩
   ·rfl
   obtain⟨b,o,h, -⟩:=HX.out (by have:=HN.out;rw[hr]at this;simp at this;omega);cases h)
  go_wp2_with fail;go_ret;refine⟨_,rfl,?_,Uv _⟩;rw[HR0.out];exact BE.nil _ _ _
 go_wp2_with(at_builtin;refine FX T9 rfl (.tmp 5) (.tmp 6) rfl rfl (AX.made (base:=w.heap.size) (c:=0) #[] rfl (by decide) (Ua _)) rfl (HRD.out _ ((Uv w).alloc _)) HEV.out.1 HEV.out.2 (by have:=HN.out;simp;omega) (by simp) ?_;intro v' w3 hM k3;have HM:=UX hM;have HK:=UX k3;clear hM k3);go_ret;refine⟨_,rfl,(HM.out.own).keep (S:=fun _=>False) (fun b hb=>⟨(HM.out.lt b hb).2,fun h=>h,(HM.out.lt b hb).1,(HM.out.lt b hb).2⟩) (Uv _),Uw ((Uv w).alloc _) HK.out fun i hi e=>by
  have h:some w.heap.size=some i:=e;injection h with h;omega⟩
theorem T6:Kg Tryz.prog 26 9 1 16 (.string ⟨#[]⟩):=⟨Tryz.underlying26,by kernel_rfl,rfl,by decide,by decide⟩
theorem M9 (v:Value) (rows:List (List Value)) (w:World) (h:Bs w w.heap.size 1 v rows) (hev:E4 1 rows) (h1:∀r∈rows,∀u∈r,u.oneCell'=true) (hn:rows.length≤1000000):Calls Tryz.prog 32 #[v] w (Jc w 1 rows):=by
 obtain⟨A,c,rfl,hc,hx⟩:=h;obtain⟨n,hnn⟩:∃n,rows.length=n:=⟨_,rfl⟩;have hrd:∀w',A5 w w'→Bs w' w'.heap.size 1 (.slice A rows.length c) rows:=fun w' g=>Bs.keep (B:=w.heap.size) ⟨A,c,rfl,hc,hx⟩ (Ua _) g.size g (fun _ _ h=>h)
 rw[hnn]at hc hx hrd;have HN:=UX hnn;have HX:=UX hx;have HRD:=UX hrd;have HEV:=UX (UZ hev h1);clear hx hev h1 hrd;rw[hnn];clear hnn;go_enter Tryz.func32,Tryz.ntmps32;have heq:=fun w=>run_eql_slice_nil (P:=Tryz.prog) w 26 9 A n c Tryz.underlying26
 rcases A with _|ad
 ·have HR0:=UX (show rows=[]from by
   rcases hr:rows with _|⟨r,rs⟩
   ·rfl
   obtain⟨b,o,h, -⟩:=HX.out (by have:=HN.out;rw[hr]at this;simp at this;omega);cases h)
  go_wp2_with fail;go_ret;refine⟨_,rfl,?_,Uv _⟩;rw[HR0.out];exact BE.nil _ _ _
 go_wp2_with(at_builtin;refine FX T6 rfl (.tmp 5) (.tmp 6) rfl rfl (AX.made (base:=w.heap.size) (c:=0) #[] rfl (by decide) (Ua _)) rfl (HRD.out _ ((Uv w).alloc _)) HEV.out.1 HEV.out.2 (by have:=HN.out;simp;omega) (by simp) ?_;intro v' w3 hM k3;have HM:=UX hM;have HK:=UX k3;clear hM k3);go_ret;refine⟨_,rfl,(HM.out.own).keep (S:=fun _=>False) (fun b hb=>⟨(HM.out.lt b hb).2,fun h=>h,(HM.out.lt b hb).1,(HM.out.lt b hb).2⟩) (Uv _),Uw ((Uv w).alloc _) HK.out fun i hi e=>by
  have h:some w.heap.size=some i:=e;injection h with h;omega⟩
theorem KW (l:List Mt):E4 3 (l.map AL):=by
 intro r hr;obtain⟨m, -,rfl⟩:=List.mem_map.1 hr;rfl
theorem N5 (l:List Mt):∀r∈l.map AL,∀u∈r,u.oneCell'=true:=by
 intro r hr;obtain⟨m, -,rfl⟩:=List.mem_map.1 hr;exact FE m
theorem EL (l:List ByteArray):E4 1 (l.map fun s=>[Value.string s]):=by
 intro r hr;obtain⟨m, -,rfl⟩:=List.mem_map.1 hr;rfl
theorem It (l:List ByteArray):∀r∈l.map (fun s=>[Value.string s]),∀u∈r,u.oneCell'=true:=by
 intro r hr;obtain⟨m, -,rfl⟩:=List.mem_map.1 hr;intro u hu;obtain rfl:=Ug.1 hu;rfl
theorem I1:∀(k:Nat) (e:Ex),AD e≤k→k≤1000000→Aw B1 e→∀(w:World) (cs:List Value),BC w w.heap.size e cs→
  Calls Tryz.prog 18 #[.agg cs.toArray] w (E1 w 0 e)
 |0,e,h,_,_,_,_,_=>absurd (AZ e) (by omega)
 |k+1,e,hk,hk2,hok,w,cs,hr=>by
  obtain⟨vm,vb,vk,rfl,hm,hy,hT⟩:=hr.open_;obtain⟨Am,nm,km,rfl⟩:∃A n c,vm= .slice A n c:=by obtain⟨A,c,h, -⟩:=hm;exact⟨A,_,c,h⟩
  obtain⟨Ab,nb,kb,rfl⟩:∃A n c,vb= .slice A n c:=by obtain⟨A,c,h, -⟩:=hy;exact⟨A,_,c,h⟩
  obtain⟨A,n,c,rfl,hn, -⟩:=hT.slice;have hne:=Ao e;have hkl:=B9 e.kids;have HIH:=UX (fun(e':Ex) (w':World) (cs:List Value) (h1:e'∈e.kids) (h2:BC w' w'.heap.size e' cs)=>I1 k e' (by have:=AT h1;omega) (by omega) (hok.kid h1) w' cs h2);have HT:=UX hT;have HN:=UX hn;have HMY:=UX (UZ hm hy);have hnb:n≤1000000:=by omega
  obtain⟨hb1,hb2,hG⟩:=BI w 29 29 (A8 e (.slice Am nm km) (.slice Ab nb kb) (.slice A n c)).toArray (AE 0 0).toArray;have hs2:((w.alloc (.cells (A8 e (.slice Am nm km) (.slice Ab nb kb) (.slice A n c)).toArray 29)).alloc (.cells (AE 0 0).toArray 29)).heap.size=w.heap.size+2:=by simp
  have hx:=hok.top.2;have HCM:=UX (fun w' (g:A5 ((w.alloc (.cells (A8 e (.slice Am nm km) (.slice Ab nb kb) (.slice A n c)).toArray 29)).alloc (.cells (AE 0 0).toArray 29)) w')=>Mu (.slice Am nm km) (e.ms.map AL) w' (hm.keep (Ua _) (hG.trans g).size (hG.trans g) (fun _ _ h=>h)) (KW e.ms) (N5 e.ms) (by have:=hx.2.2.2.1;simp;omega));have HCB:=UX (fun w' (g:A5 ((w.alloc (.cells (A8 e (.slice Am nm km) (.slice Ab nb kb) (.slice A n c)).toArray 29)).alloc (.cells (AE 0 0).toArray 29)) w')=>M9 (.slice Ab nb kb) (e.bys.map fun s=>[Value.string s]) w' (hy.keep (Ua _) (hG.trans g).size (hG.trans g) (fun _ _ h=>h)) (EL e.bys) (It e.bys) (by have:=hx.2.2.2.2;simp;omega));clear hx;clear hr hm hy hT hn hne hkl hk hk2 hok;go_enter Tryz.func18,Tryz.ntmps18;go_upto_region 1 with fail;change Code.wp _ _ _ _ ((w.alloc (.cells (A8 e (.slice Am nm km) (.slice Ab nb kb) (.slice A n c)).toArray 29)).alloc (.cells (AE 0 0).toArray 29));generalize (w.alloc (.cells (A8 e (.slice Am nm km) (.slice Ab nb kb) (.slice A n c)).toArray 29)).alloc (.cells (AE 0 0).toArray 29)=w1 at*;have HS:=UX hs2;clear hs2;refine Hr [(7,fun w'=>w'.cell? ⟨w.heap.size,8,none⟩=some (.slice Am nm km)),(9,fun w'=>w'.cell? ⟨w.heap.size,9,none⟩=some (.slice Ab nb kb))] (by kernel_rfl) (by intro pp hp;rcases List.mem_cons.1 hp with rfl|hp;exact hb1.drew.cell 8;obtain rfl:=Ug.1 hp;exact hb1.drew.cell 9) ?_;intro hcl hkn;refine tP (i:=0) hcl hkn fun hcl hkn=>?_
  simp only[List.getElem_toArray,List.getElem_cons_zero,List.getElem_cons_succ,Act.put,List.setIfInBounds_toArray,List.set_cons_zero,List.set_cons_succ]
  refine' D3 7 _ (i:=1) (v:=_) rfl (by kernel_rfl) (by kernel_rfl) (by kernel_rfl) hcl hkn (by rfl) 0 rfl (by kernel_rfl) (fun _ _ _ h=>h) rfl ?_ ?_
  rotate_left
  ·rintro w' hc;go_simp;try with_reducible rfl
  clear hcl hkn;intro hcl hkn;simp only[List.getElem_toArray,List.getElem_cons_zero,List.getElem_cons_succ,Act.put,List.setIfInBounds_toArray,List.set_cons_zero,List.set_cons_succ];refine tP (i:=3) hcl hkn fun hcl hkn=>?_
  simp only[List.getElem_toArray,List.getElem_cons_zero,List.getElem_cons_succ,Act.put,List.setIfInBounds_toArray,List.set_cons_zero,List.set_cons_succ]
  refine' D3 9 _ (i:=4) (v:=_) rfl (by kernel_rfl) (by kernel_rfl) (by kernel_rfl) hcl hkn (by rfl) 1 rfl (by kernel_rfl) (fun _ _ _ h=>h) rfl ?_ ?_
  rotate_left
  ·rintro w' hc;go_simp;try with_reducible rfl
  clear hcl hkn;intro hcl hkn;simp only[List.getElem_toArray,List.getElem_cons_zero,List.getElem_cons_succ,Act.put,List.setIfInBounds_toArray,List.set_cons_zero,List.set_cons_succ];refine oN (i:=2) hcl fun K hK=>?_
  go_simp;refine(HCM.out _ (Uy (Uv w1))).mono ?_;rintro e2 w2 ⟨vM,rfl,qM,k2⟩;have b2:=hb1.drew.grew k2;refine hK _ _ (Fb (.inr (b2.cell 8)) (.inr (b2.cell 9))) ?_;have g2:A5 w1 w2:=(Uy (Uv w1)).trans k2;have HQM:=UX qM;obtain⟨AM,nM,kM,rfl, -⟩:=qM.slice;clear qM k2;clear hK K hcl hkn;intro hcl hkn
  try simp only[nf]
  refine tP (i:=6) hcl hkn fun hcl hkn=>?_
  simp only[List.getElem_toArray,List.getElem_cons_zero,List.getElem_cons_succ,Act.put,List.setIfInBounds_toArray,List.set_cons_zero,List.set_cons_succ];refine oN (i:=5) hcl fun K hK=>?_
  go_simp;refine(HCB.out _ g2).mono ?_;rintro e3 w3 ⟨vB,rfl,qB,k3⟩;have b3:=b2.grew k3;refine hK _ _ (Fb (.inr (b3.cell 8)) (.inr (b3.cell 9))) ?_;have HQB:=UX qB;have HK3:=UX k3;obtain⟨AB,nB,kB,rfl, -⟩:=qB.slice;have c8:w3.cell? ⟨w.heap.size,8,none⟩=some (.slice Am nm km):=b3.cell 8;have f8:w3.frozen? ⟨w.heap.size,8,none⟩=false:=b3.frozen 8;clear qB k3;clear hK K hcl hkn;intro hcl hkn
  try simp only[nf]
  refine oN (i:=7) hcl fun K hK=>?_
  go_simp;have b4:=b3.set_ 8 (.slice AM nM kM);refine hK _ _ (Fb (.inl (by kernel_rfl)) (.inr (b4.cell 9))) ?_;have c9:(w3.setCell ⟨w.heap.size,8,none⟩ (.slice AM nM kM)).cell? ⟨w.heap.size,9,none⟩=some (.slice Ab nb kb):=b4.cell 9;have f9:(w3.setCell ⟨w.heap.size,8,none⟩ (.slice AM nM kM)).frozen? ⟨w.heap.size,9,none⟩=false:=b4.frozen 9;clear c8 f8;clear hK K hcl hkn;intro hcl hkn
  try simp only[nf]
  refine tP (i:=8) hcl hkn fun hcl hkn=>?_
  simp only[List.getElem_toArray,List.getElem_cons_zero,List.getElem_cons_succ,Act.put,List.setIfInBounds_toArray,List.set_cons_zero,List.set_cons_succ];refine oN (i:=9) hcl fun K hK=>?_
  go_simp;have b5:=b4.set_ 9 (.slice AB nB kB);refine hK _ _ (Fb (.inl (by kernel_rfl)) (.inl (by kernel_rfl))) ?_;clear hK K hcl hkn;intro hcl hkn
  try simp only[nf]
  refine aD ?_;have b5':AK ((w3.setCell ⟨w.heap.size,8,none⟩ (.slice AM nM kM)).setCell ⟨w.heap.size,9,none⟩ (.slice AB nB kB)) w.heap.size 29 (A8 e (.slice AM nM kM) (.slice AB nB kB) (.slice A n c)).toArray:=b5;have k5:A4 (fun i=>i=w.heap.size) w3 ((w3.setCell ⟨w.heap.size,8,none⟩ (.slice AM nM kM)).setCell ⟨w.heap.size,9,none⟩ (.slice AB nB kB)):=V0 (S:=fun i=>i=w.heap.size) (p:=⟨w.heap.size,9,none⟩) (V0 (S:=fun i=>i=w.heap.size) (p:=⟨w.heap.size,8,none⟩) (Uz _ w3) (.inl rfl) _) (.inl rfl) _;have g3:A5 w1 w3:=g2.trans HK3.out;have hs2:=HS.out;have hd1:w1.drew.heap.size=w1.heap.size:=rfl;have rM:BE ((w3.setCell ⟨w.heap.size,8,none⟩ (.slice AM nM kM)).setCell ⟨w.heap.size,9,none⟩ (.slice AB nB kB)) (fun b=>w.heap.size+2≤b∧b<w3.heap.size) 3 (.slice AM nM kM) (e.ms.map AL):=HQM.out.keep (S:=fun i=>i=w.heap.size) (fun b hb=>⟨hb.2,fun h=>by have:=hb.1;omega,by have:=hb.1;omega,by have:=hb.2;have:=HK3.out.size;omega⟩) (Uw (V2 HK3.out) k5 fun i _ h=>h);have rB:BE ((w3.setCell ⟨w.heap.size,8,none⟩ (.slice AM nM kM)).setCell ⟨w.heap.size,9,none⟩ (.slice AB nB kB)) (fun b=>w.heap.size+2≤b∧b<w3.heap.size) 1 (.slice AB nB kB) (e.bys.map fun s=>[Value.string s]):=HQB.out.keep (S:=fun i=>i=w.heap.size) (fun b hb=>⟨hb.2,fun h=>by have:=hb.1;have:=g2.size;omega,by have:=hb.1;have:=g2.size;omega,hb.2⟩) k5;have hg5:A5 w ((w3.setCell ⟨w.heap.size,8,none⟩ (.slice AM nM kM)).setCell ⟨w.heap.size,9,none⟩ (.slice AB nB kB)):=Uw (hG.trans g3) k5 fun i hi e=>by omega
  have bz:AK ((w3.setCell ⟨w.heap.size,8,none⟩ (.slice AM nM kM)).setCell ⟨w.heap.size,9,none⟩ (.slice AB nB kB)) (w.heap.size+1) 29 (AE 0 0).toArray:=((hb2.grew g3).far (p:=⟨w.heap.size,8,none⟩) (by simp) _).far (p:=⟨w.heap.size,9,none⟩) (by simp) _;have hs5:=k5.size;have HB:=UX (UZ b5' (UZ bz (UZ hg5 (UZ rM rB))));have HSZ:=UX (show w.heap.size+2≤((w3.setCell ⟨w.heap.size,8,none⟩ (.slice AM nM kM)).setCell ⟨w.heap.size,9,none⟩ (.slice AB nB kB)).heap.size∧w3.heap.size≤((w3.setCell ⟨w.heap.size,8,none⟩ (.slice AM nM kM)).setCell ⟨w.heap.size,9,none⟩ (.slice AB nB kB)).heap.size by have:=g3.size;omega);clear b5 b5' k5 g3 hs2 hd1 rM rB hg5 bz b2 b3 b4 c9 f9 hb1 hb2 hG g2 hs5 HQM HQB HCM HCB;generalize w3.heap.size=z3 at*;generalize (w3.setCell ⟨w.heap.size,8,none⟩ (.slice AM nM kM)).setCell ⟨w.heap.size,9,none⟩ (.slice AB nB kB)=w5 at*;clear hcl hkn;have c10:w5.cell? ⟨w.heap.size,10,none⟩=some (.slice A n c):=HB.out.1.cell 10;go_upto_region 3 with(first|((with_reducible refine K8 27 (.const (.int .i64 0)) (.tmp 16) rfl ?_);refine MJ rfl (.const (.int .i64 0)) (.tmp 16) rfl n rfl rfl hnb ?_;intro w6 hM6 g6));have HM6:=UX hM6;have HB6:=UX (show AK w6 w.heap.size 29 (A8 e (.slice AM nM kM) (.slice AB nB kB) (.slice A n c)).toArray∧AK w6 (w.heap.size+1) 29 (AE 0 0).toArray∧A5 w w6∧BE w6 (fun b=>w.heap.size+2≤b∧b<w5.heap.size) 3 (.slice AM nM kM) (e.ms.map AL)∧BE w6 (fun b=>w.heap.size+2≤b∧b<w5.heap.size) 1 (.slice AB nB kB) (e.bys.map fun s=>[Value.string s])from⟨HB.out.1.grew g6,HB.out.2.1.grew g6,HB.out.2.2.1.trans g6,HB.out.2.2.2.1.keep (S:=fun _=>False) (fun b hb=>⟨by have:=HSZ.out;omega,fun h=>h,hb.1,by have:=HSZ.out;omega⟩) g6,HB.out.2.2.2.2.keep (S:=fun _=>False) (fun b hb=>⟨by have:=HSZ.out;omega,fun h=>h,hb.1,by have:=HSZ.out;omega⟩) g6⟩);have HS6:=UX (show w.heap.size+2≤w5.heap.size∧w5.heap.size≤w6.heap.size from⟨HSZ.out.1,g6.size⟩);clear hM6 g6 c10 HB HSZ HK3;have c10:w6.cell? ⟨w.heap.size,10,none⟩=some (.slice A n c):=HB6.out.1.cell 10;generalize w5.heap.size=M at*;go_wp2_with fail;go_loopw [3,5,21] (fun s _ i wr=>∃(j:Nat) (rows:List (List Value)),j≤n∧i= .int .i64 (j:Nat)∧AX wr M 29 11 s rows∧Bz wr (LE 0 M s wr.heap.size) (e.kids.take j) rows∧A4 (fun i=>M≤i) w6 wr) (fun _ _ i _=>n-(intOf i).toNat)
  case atStart=>exact⟨0,[],by omega,rfl,HM6.out,by simpa using Bz.nil _ _,Uz _ _⟩
  case round=>
   obtain⟨j,rows,hj,rfl,hM,hTr,hGr⟩:=hrel;obtain⟨As,ns,ks,rfl,hns, -⟩:=hM.slice;have HM:=UX hM;have HTr:=UX hTr;have HNS:=UX hns;have HGr:=UX hGr;clear hM hTr hns hGr;by_cases hlt:j<n
   ·have hjl:j<e.kids.length:=by rw[←HN.out];exact hlt
    obtain⟨e',he'⟩:∃e',e.kids[j]? =some e':=⟨_,Uc hjl⟩;have hmem:e'∈e.kids:=Uk he';have hgw:A5 w wr:=Uw HB6.out.2.2.1 HGr.out fun i hi (e:M≤i)=>by have:=HS6.out;omega
    have hTw:Gw wr wr.heap.size (.slice A n c) e.kids:=HT.out.grew hgw;obtain⟨b,o,cs,rfl,hb,hrg,hre⟩:=hTw.at_ he';obtain⟨vm',vb',vk',hcs,hm',hy',hT'⟩:=hre.open_;subst hcs;obtain⟨A1,n1,c1,rfl⟩:∃A n c,vm'= .slice A n c:=by obtain⟨A,c,h, -⟩:=hm';exact⟨A,_,c,h⟩
    obtain⟨A2,n2,c2,rfl⟩:∃A n c,vb'= .slice A n c:=by obtain⟨A,c,h, -⟩:=hy';exact⟨A,_,c,h⟩
    obtain⟨A3,n3,c3,rfl, -⟩:=hT'.slice;have hsw:M≤wr.heap.size:=by have:=HGr.out.size;have:=HS6.out;omega
    have HI:=UX (fun w' (g:A5 wr w')=>HIH.out e' w' _ hmem (hre.grew g));have HE:=UX he';have HRg:=UX hrg;have HSW:=UX hsw;clear hjl he' hmem hTw hrg hre hm' hy' hT' hsw hgw hb;go_wp2_with(first|(refine lM (.tmp 23) HRg.out rX ?_)|(refine sN (.tmp 5) (.tmp 24) (A8 e' (.slice A1 n1 c1) (.slice A2 n2 c2) (.slice A3 n3 c3)) (Ux wr 29 _) rX ?_ (us:=(AE 0 0));intro w7 hb7 k7 d7;have g7:A5 wr w7:=Uw ((Uv wr).alloc _) k7 (fun i hi e=>by omega))|(refine lN (.tmp 5) hb7 rX ?_)|fail);refine(HI.out _ g7).mono ?_;rintro e2 w8 ⟨cs3,rfl,hr3,k3⟩;obtain⟨vm3,vb3,vk3,rfl,hm3,hy3,hT3⟩:=hr3.open_;obtain⟨Am3,QU,km3,rfl, -⟩:=hm3.slice;obtain⟨Ab3,nb3,kb3,rfl, -⟩:=hy3.slice;obtain⟨A3',n3',c3',rfl, -⟩:=hT3.slice;have HR3:=UX (AN.two_le (M':=wr.heap.size) hr3 g7.size);have HK3:=UX (g7.trans k3);have hl3:=CO e' (.slice Am3 QU km3) (.slice Ab3 nb3 kb3) (.slice A3' n3' c3');clear k3 HI hr3 hm3 hy3 hT3 g7 hb7 k7 d7;go_wp2_with(at_builtin;refine GI rfl (.tmp 25) (.tmp 28) rfl rfl rfl (Ua _) HM.out HTr.out (Nat.zero_le _) HSW.out HK3.out HR3.out (by rw[List.length_take];omega) ?_;intro A6 n6 c6 w9 H6);go_wp2_with fail;go_roundw
    case rel=>
     obtain⟨rows6,hM6,hT6,hG6⟩:=H6.out;have hes:e.kids.take j++[e']=e.kids.take (j+1):=by rw[List.take_add_one,HE.out];simp
     rw[hes]at hT6;exact⟨j+1,_,by omega,by go_num,hM6,hT6,A4.trans HGr.out hG6⟩
    case measure=>simp[intOf];omega
   obtain rfl:j=n:=by omega
   have hes:e.kids.take j=e.kids:=List.take_of_length_le (by rw[←HN.out];exact Ua _);have hTr:=HTr.out;have hM:=HM.out;rw[hes]at hTr;have hm1:=hM.lt;have hsz:=HS6.out;have hsr:=HGr.out.size;have hTQ:Ca wr (C9 0 M wr.heap.size) (.slice As ns ks) e.kids:=hM.treesQ hTr.1 (fun b hb=>⟨.inr (hm1 b hb).1,(hm1 b hb).2⟩) fun i e' cs h1 h2=>AN.keep (S:=fun _=>False) (fun b hb=>⟨hb.2.1,fun h=>h,hb.1,hb.2.1⟩) (Uv wr) e' cs (hTr.2 i e' cs h1 h2)
   have hbr:=HB6.out.1.keep HGr.out (by omega);have hb2:=HB6.out.2.1.keep HGr.out (by omega);have hgw:A5 w wr:=Uw HB6.out.2.2.1 HGr.out fun i hi (e:M≤i)=>by omega
   have f10:=hbr.frozen 10;have c10':wr.cell? ⟨w.heap.size,10,none⟩=some (.slice A j c):=hbr.cell 10;have hb4:AK (wr.setCell ⟨w.heap.size,10,none⟩ (.slice As ns ks)) w.heap.size 29 ((A8 e (.slice AM nM kM) (.slice AB nB kB) (.slice As ns ks))).toArray:=hbr.set_ 10 (.slice As ns ks);have k4:A4 (fun i=>i=w.heap.size) wr (wr.setCell ⟨w.heap.size,10,none⟩ (.slice As ns ks)):=V0 (S:=fun i=>i=w.heap.size) (p:=⟨w.heap.size,10,none⟩) (Uz _ wr) (.inl rfl) _;have hsz4:(wr.setCell ⟨w.heap.size,10,none⟩ (.slice As ns ks)).heap.size=wr.heap.size:=by simp
   have b24:=hb2.far (p:=⟨w.heap.size,10,none⟩) (by simp) (.slice As ns ks);have rM4:BE (wr.setCell ⟨w.heap.size,10,none⟩ (.slice As ns ks)) (fun b=>(w.heap.size+2≤b)∧b<M) 3 (.slice AM nM kM) (e.ms.map AL):=HB6.out.2.2.2.1.keep (S:=fun i=>M≤i∨i=w.heap.size) (fun b hb=>⟨by omega,fun h=>by rcases h with h|h<;>omega,hb⟩) (Uw (A4.mono HGr.out fun i _ h=> .inl h) k4 fun i _ h=> .inr h);have rB4:BE (wr.setCell ⟨w.heap.size,10,none⟩ (.slice As ns ks)) (fun b=>(w.heap.size+2≤b)∧b<M) 1 (.slice AB nB kB) (e.bys.map fun s=>[Value.string s]):=HB6.out.2.2.2.2.keep (S:=fun i=>M≤i∨i=w.heap.size) (fun b hb=>⟨by omega,fun h=>by rcases h with h|h<;>omega,hb⟩) (Uw (A4.mono HGr.out fun i _ h=> .inl h) k4 fun i _ h=> .inr h);have HE4:=UX (UZ rM4 (UZ rB4 (UZ hTQ (UZ k4 (UZ hsz4 hgw)))));clear hTQ hbr hb2 hgw k4 hsz4 hM hTr HM HTr HNS hes hm1 hsz c10 rM4 rB4 hsr;go_upto_region 9 with fail;generalize wr.setCell ⟨w.heap.size,10,none⟩ (.slice As ns ks)=w4 at*;go_wp2_with(first|(refine lN (.tmp 1) hb4 rX ?_)|(refine sN (.tmp 2) (.tmp 33) (A8 e (.slice AM nM kM) (.slice AB nB kB) (.slice As ns ks)) b24 rX ?_;intro w8 hb8 k8 d8)|fail);refine rO rX hb8 ?_;obtain⟨rM4,rB4,hTQ,k4,hsz4,hgw⟩:=HE4.out;have hsz:=HS6.out;have hsr:=HGr.out.size;have hgw4:A5 w w4:=Uw hgw k4 fun i hi e=>by omega
   refine⟨_,rfl,?_,Uw hgw4 k8 (fun i hi e=>by omega)⟩;refine Ck (M:=w.heap.size+2) k8 (Nat.zero_le _) (Ua _) (AN.mk_ ?_ ?_ ?_)
   ·exact rM4.keep (S:=fun _=>False) (fun b hb=>⟨by omega,fun h=>h,.inr hb.1,by omega⟩) (Uv _)
   ·exact rB4.keep (S:=fun _=>False) (fun b hb=>⟨by omega,fun h=>h,.inr hb.1,by omega⟩) (Uv _)
   exact hTQ.keep (S:=fun i=>i=w.heap.size) (fun b hb=>⟨hb.2,fun h=>by rcases hb.1 with h1|h1<;>omega,by rcases hb.1 with h1|h1;omega;exact .inr (by omega),by have:=hb.2;omega⟩) k4
theorem FF {f:Ex→Ex}:∀(es:List Ex),(∀e∈es,AD (f e)≤AD e)→AO (es.map f)≤AO es
 |[],_=>Ua _
 |e::es,h=>by
  rw[List.map_cons];unfold AO;have h1:=h e List.mem_cons_self;have h2:=FF es fun e' he=>h e' (List.mem_cons_of_mem _ he)
  omega
theorem FB:∀(n:Nat) (e:Ex),AD e≤n→AD (AS e)≤AD e
 |0,e,h=>absurd (AZ e) (by omega)
 |n+1,e,h=>by
  rw[CK];have h2:=Ao e;rcases FG (e.withKids (e.kids.map AS))with h1|⟨x,y, -, -,h1⟩
  ·rw[h1,Ao (e.withKids _),Bq];have:=FF e.kids fun e' he=>FB n e' (by have:=AT he;omega)
   omega
  rw[h1];have:=AZ e;exact this
theorem FW (x y:Int):Qt (Ay x y):=by
 have h0:Fz (Ay x y).name:=⟨fun i h=>absurd h (by show ¬i<0;omega),by show 0≤1000;omega⟩;exact⟨h0,(fun m hm=>nomatch hm),(fun m hm=>nomatch hm),Nat.zero_le _,Nat.zero_le _⟩
theorem IE:∀(n:Nat) (e:Ex),AD e≤n→Aw B1 e→Aw B1 (AS e)
 |0,e,h,_=>absurd (AZ e) (by omega)
 |n+1,e,h,hok=>by
  rw[CK];have h2:=Ao e;rcases FG (e.withKids (e.kids.map AS))with h1|⟨x,y,hx,hy,h1⟩
  ·rw[h1,Aa,Bq];refine⟨?_,fun k hk=>?_⟩
   ·have:=hok.top;cases e;exact this
   obtain⟨e',he',rfl⟩:=List.mem_map.1 hk;exact IE n e' (by have:=AT he';omega) (hok.kid he')
  rw[h1,Aa];have z0:Ah 0:=Bt.1;exact⟨⟨⟨z0,z0,z0,z0,z0,hx,hy⟩,FW x y⟩,(fun k hk=>nomatch hk)⟩
theorem Ns (e:Ex) (hn:AD e≤1000000) (hok:Aw B1 e) (w:World) (cs:List Value) (hwt:Cy w) (hr:BC w w.heap.size e cs):
  Calls Tryz.prog 8 #[.agg cs.toArray] w (E1 w 0 (Cc e)):=by
 have hone:∀v∈cs,v.oneCell'=true:=AQ (BC.toQ (Q:=fun _=>True) (fun _ _=>trivial) e cs hr);obtain⟨vm,vb,vk,rfl, -⟩:=hr.open_;obtain⟨hb1,hb2,hG⟩:=BI w 29 29 (A8 e vm vb vk).toArray (AE 0 0).toArray;have hs2:((w.alloc (.cells (A8 e vm vb vk).toArray 29)).alloc (.cells (AE 0 0).toArray 29)).heap.size=w.heap.size+2:=by simp
 have HR:=UX (fun w' (g:A5 w w')=>hr.grew g);have HVd:=UX (fun w' (g:A5 w w')=>Fw e hn hok w' (A8 e vm vb vk) (hwt.grew g) (hr.grew g));obtain⟨z,hz⟩:∃z,CA e=z:=⟨_,rfl⟩;rw[hz]at HVd;have HZ:=UX hz;have HOK:=UX hok;have HN:=UX hn;clear hr hok hn hz hwt;go_enter Tryz.func8,Tryz.ntmps8;go_upto_region 1 with fail;change Code.wp _ _ _ _ ((w.alloc (.cells (A8 e vm vb vk).toArray 29)).alloc (.cells (AE 0 0).toArray 29));generalize (w.alloc (.cells (A8 e vm vb vk).toArray 29)).alloc (.cells (AE 0 0).toArray 29)=w1 at*;have HS:=UX hs2;have HG:=UX hG;clear hs2 hG;by_cases hz0:z=0
 ·subst hz0;have HF:=UX (show Cc e=AS e by unfold Cc;rw[Uo HZ.out]);go_upto_region 3 with(first|(refine lN (.tmp 1) hb1 rX ?_)|(go_at_call 17;(with_reducible refine(HVd.out _ HG.out).mono ?_);rintro e3 w3 ⟨rfl,k3⟩)|fail);have hb3:=hb1.grew k3;have hb4:=hb2.grew k3;have HG3:=UX (HG.out.trans k3);have hs3:=k3.size;have HS3:=UX (show w.heap.size+2≤w3.heap.size by have:=HS.out;omega);have HSi:=UX (JD (AD e) e (Ua _) HN.out (Jk HOK.out HZ.out) w3 w3.heap.size (A8 e vm vb vk) (Ua _) (HR.out w3 HG3.out));have HSe:=UX (fun w' cs' (h:BC w' w'.heap.size (AS e) cs')=>I1 (AD (AS e)) (AS e) (Ua _) (Ue (FB (AD e) e (Ua _)) HN.out) (IE (AD e) e (Ua _) HOK.out) w' cs' h);clear hb1 hb2 k3 hs3 HVd;go_wp2_with(first|(refine lN (.tmp 1) hb3 rX ?_)|(go_at_call 19;(with_reducible refine HSi.out.mono ?_);rintro e4 w4 ⟨Y,rfl,hrY,k4⟩;have HY:=UX (AN.toB (B:=w4.heap.size) (fun b hb=>hb.2) _ _ hrY);clear hrY;have hs4:=k4.size;have HS4:=UX (Ue HS3.out hs4);clear hs4)|(go_at_call 18;(with_reducible refine(HSe.out _ _ HY.out).mono ?_);rintro e5 w5 ⟨X,rfl,hrX,k5⟩;have hX1:=AQ hrX;have hXl:X.length=11:=(by obtain⟨a,b,c,h, -⟩:=hrX.open_;rw[h];rfl);have HX:=UX hrX;have HXl:=UX hXl;clear hrX hXl;have hb5:=hb4.grew (k4.trans k5))|(refine sN (.tmp 2) (.tmp 10) X hb5 rX ?_ (hl:=HXl.out) (h1:=hX1);intro w8 hb8 k8 d8)|fail);refine rO rX hb8 ?_ (hl:=HXl.out);refine⟨X,rfl,?_,Uw (HG3.out.trans (k4.trans k5)) k8 (fun i hi e=>by omega)⟩;rw[HF.out];exact Ck k8 (Nat.zero_le _) HS4.out HX.out
 have t1:(z==0)=false:=by rw[UY];exact hz0
 have t2:(z !=0)=true:=by rw[bne,t1];rfl
 have HF:=UX (show Cc e=e by unfold Cc;rw[Un (by rw[HZ.out];exact hz0)]);clear hz0;go_upto_region 2 with(first|(refine lN (.tmp 1) hb1 rX ?_)|(go_at_call 17;(with_reducible refine(HVd.out _ HG.out).mono ?_);rintro e3 w3 ⟨rfl,k3⟩)|fail);have hb3:=hb1.grew k3;have hb4:=hb2.grew k3;have HG3:=UX (HG.out.trans k3);have hs3:=k3.size;have HS3:=UX (show w.heap.size+2≤w3.heap.size by have:=HS.out;omega);have HSe:=UX (I1 (AD e) e (Ua _) HN.out HOK.out w3 (A8 e vm vb vk) (HR.out w3 HG3.out));clear hb1 hb2 k3 hs3 HVd;go_wp2_with(first|(refine lN (.tmp 1) hb3 rX ?_)|(go_at_call 18;(with_reducible refine HSe.out.mono ?_);rintro e5 w5 ⟨X,rfl,hrX,k5⟩;have hX1:=AQ hrX;have hXl:X.length=11:=(by obtain⟨a,b,c,h, -⟩:=hrX.open_;rw[h];rfl);have HX:=UX hrX;have HXl:=UX hXl;clear hrX hXl;have hb5:=hb4.grew k5)|(refine sN (.tmp 2) (.tmp 7) X hb5 rX ?_ (hl:=HXl.out) (h1:=hX1);intro w8 hb8 k8 d8)|fail);refine rO rX hb8 ?_ (hl:=HXl.out);refine⟨X,rfl,?_,Uw (HG3.out.trans k5) k8 (fun i hi e=>by omega)⟩;rw[HF.out];exact Ck k8 (Nat.zero_le _) HS3.out HX.out
def GS (w:World) (g B:Nat) (v:Value) (l:List Int) (i:Nat):Prop:=AK w g 38 #[v,.int .i64 (i:Nat)]∧Rd w B v (l.map vi)∧B≤g∧(∀x∈l,Ah x)∧l.length≤1000000000000000
theorem GS.grew {w w':World} {g B:Nat} {v:Value} {l:List Int} {i:Nat} (h:GS w g B v l i) (hg:A5 w w'):GS w' g B v l i:=
 ⟨h.1.grew hg,h.2.1.grew (Ue h.2.2.1 (Nat.le_of_lt h.1.lt)) hg,h.2.2⟩
def BY (g B:Nat) (v:Value) (l:List Int) (i m:Nat) (w:World) (e:Ending) (w':World):Prop:=∃r:Nat,r<m∧e= .returned (.int .i64 (r:Nat))∧GS w' g B v l (i+1)∧A4 (fun b=>b=g) w w'
theorem BD (w:World) (g B:Nat) (v:Value) (l:List Int) (i m:Nat) (h:GS w g B v l i) (hi:i≤100000) (hm:0<m) (hm2:m≤100000):
  Calls Tryz.prog 23 #[.pointer (some ⟨g,0,none⟩),.int .i64 (m:Nat)] w (BY g B v l i m w):=by
 obtain⟨hb,hr,hB,hl,hll⟩:=h;obtain⟨A,n,c,rfl,hn,hc⟩:=hr.form;have c0:w.cell? ⟨g,0,none⟩=some (.slice A n c):=hb.cell 0;have c1:w.cell? ⟨g,1,none⟩=some (.int .i64 (i:Nat)):=hb.cell 1;have f1:w.frozen? ⟨g,1,none⟩=false:=hb.frozen 1;have hb2:AK (w.setCell ⟨g,1,none⟩ (.int .i64 ((i:Int)+1))) g 38 #[.slice A n c,.int .i64 ((i:Int)+1)]:=hb.set_ 1 _;have k2:A4 (fun b=>b=g) w (w.setCell ⟨g,1,none⟩ (.int .i64 ((i:Int)+1))):=V0 (S:=fun b=>b=g) (p:=⟨g,1,none⟩) (Uz _ w) (.inl rfl) _;have hgl:=hb.lt;have hr2:=hr.keep (by omega) k2 (fun i hi e=>by omega);have HB:=UX (UZ hb2 (UZ k2 hr2));have HL:=UX (UZ hl hll);have HBB:=UX hB;have HGL:=UX hgl;clear hb hr hB hl hll hn hc hb2 k2 hr2 hgl;go_enter Tryz.func23,Tryz.ntmps23;go_upto_region 2 with fail;obtain⟨hb2,k2,hr2⟩:=HB.out;generalize w.setCell ⟨g,1,none⟩ (.int .i64 ((i:Int)+1))=w2 at*;have d0:w2.cell? ⟨g,0,none⟩=some (.slice A n c):=hb2.cell 0;have d1:w2.cell? ⟨g,1,none⟩=some (.int .i64 ((i:Int)+1)):=hb2.cell 1;have HP:=UX (fun w' (hg:A5 w2 w')=>Dg (.slice A n c) l i m w' ((hr2.grew (by have:=k2.size;have:=HBB.out;have:=HGL.out;omega) hg).more (by have:=k2.size;have:=hg.size;have:=HBB.out;have:=HGL.out;omega)) HL.out.1 HL.out.2 (by omega) hm (by omega));have HR:=UX (FC l i m hm);have HW:=UX (UZ hb2 (UZ k2 hr2));generalize EU l i m=r at*;have hwr:IntKind.i64.wrap ((i:Int)+1-1)=(i:Int):=by unfold IntKind.wrap;simp[IntKind.bits,IntKind.signed];omega
 have hwr2:((i:Int)+1-1)=(i:Int):=by omega
 clear hb2 k2 hr2 c0 c1 f1;go_quiet ((go_at_call 47;exact Calls.quiet_of_same (HP.out _ (V1 (Uv _) _))));go_wp2_with fail;go_ret;obtain⟨hb2,k2,hr2⟩:=HW.out;exact⟨r,HR.out,rfl,⟨by rw[show(((i+1:Nat)):Int)=(i:Int)+1 by omega];exact hb2.drewN _,hr2.keep (by have:=k2.size;have:=HBB.out;have:=HGL.out;omega) (V1 (Uv w2) _) (fun _ _ h=>h),HBB.out,HL.out⟩,k2.drewN _⟩
end Go.Proofs.YtkclnhpofkaclaaGreatDoor
namespace Go.Proofs.YtkclnhpofkaclaaGreatDoor
open Go.RowKit
def Bv (w:World) (Q:Nat→Prop) (sz:Nat) (v:Value) (rows:List (List Value)):Prop:=
 ∃A c,v= .slice A rows.length c∧(rows.length≤c∧c≤rows.length)∧(0<rows.length→∃b o,A=some ⟨b,o,none⟩∧Q b∧∀j cs,rows[j]? =some cs→w.rangeAt b (o+j*sz) cs)
mutual
def AV (w:World) (Q:Nat→Prop):Ex→List Value→Prop
 | .mk kind fn window offset k num den name ms bys kids,cs=>∃vm vb vk,cs=A8 (.mk kind fn window offset k num den name ms bys kids) vm vb vk∧Bv w Q 3 vm (ms.map AL)∧Bv w Q 1 vb (bys.map fun s=>[Value.string s])∧
   ∃A c,vk= .slice A kids.length c∧(kids.length≤c∧c≤kids.length)∧(0<kids.length→∃b o,A=some ⟨b,o,none⟩∧Q b∧Bp w Q b o kids)
def Bp (w:World) (Q:Nat→Prop) (b o:Nat):List Ex→Prop
 |[]=>True
 |e::es=>(∃cs,w.rangeAt b o cs∧AV w Q e cs)∧Bp w Q b (o+11) es
end
def DP (w:World) (Q:Nat→Prop) (v:Value) (es:List Ex):Prop:=
 ∃A c,v= .slice A es.length c∧(es.length≤c∧c≤es.length)∧(0<es.length→∃b o,A=some ⟨b,o,none⟩∧Q b∧Bp w Q b o es)
section
variable {w w':World} {Q Q':Nat→Prop} {B:Nat}
theorem Bv.keep {sz:Nat} {v:Value} {rows:List (List Value)} {S:Nat→Prop} (h:Bv w Q sz v rows) (hq:∀b,Q b→b<w.heap.size∧¬S b∧Q' b) (hk:A4 S w w'):Bv w' Q' sz v rows:=by
 obtain⟨A,c,hv,hc,hx⟩:=h;refine⟨A,c,hv,hc,fun hn=>?_⟩;obtain⟨b,o,e,hb,hcell⟩:=hx hn;exact⟨b,o,e,(hq b hb).2.2,fun j cs hj=>AR (hcell j cs hj) (hq b hb).1 hk (hq b hb).2.1⟩
mutual
theorem AV.keep {S:Nat→Prop} (hq:∀b,Q b→b<w.heap.size∧¬S b∧Q' b) (hk:A4 S w w'):∀(e:Ex) (cs:List Value),AV w Q e cs→AV w' Q' e cs
 | .mk kind fn window offset k num den name ms bys kids,cs,h=>by
  unfold AV at h ⊢;obtain⟨vm,vb,vk,h1,h2,h3,A,c,h4,h5,h6⟩:=h;refine⟨vm,vb,vk,h1,h2.keep hq hk,h3.keep hq hk,A,c,h4,h5,fun hn=>?_⟩;obtain⟨b,o,e1,hb,hks⟩:=h6 hn;exact⟨b,o,e1,(hq b hb).2.2,Bp.keep hq hk b hb kids o hks⟩
theorem Bp.keep {S:Nat→Prop} (hq:∀b,Q b→b<w.heap.size∧¬S b∧Q' b) (hk:A4 S w w') (b:Nat) (hb:Q b):∀(es:List Ex) (o:Nat),Bp w Q b o es→Bp w' Q' b o es
 |[],_,_=>by unfold Bp;trivial
 |e::es,o,h=>by
  unfold Bp at h ⊢;obtain⟨⟨cs,h1,h2⟩,h3⟩:=h;exact⟨⟨cs,AR h1 (hq b hb).1 hk (hq b hb).2.1,AV.keep hq hk e cs h2⟩,Bp.keep hq hk b hb es (o+11) h3⟩
end
theorem DP.keep {v:Value} {es:List Ex} {S:Nat→Prop} (h:DP w Q v es) (hq:∀b,Q b→b<w.heap.size∧¬S b∧Q' b) (hk:A4 S w w'):DP w' Q' v es:=by
 obtain⟨A,c,hv,hc,hx⟩:=h;refine⟨A,c,hv,hc,fun hn=>?_⟩;obtain⟨b,o,e,hb,hks⟩:=hx hn;exact⟨b,o,e,(hq b hb).2.2,Bp.keep hq hk b hb es o hks⟩
theorem AV.open_ {e:Ex} {cs:List Value} (h:AV w Q e cs):∃vm vb vk,cs=A8 e vm vb vk∧Bv w Q 3 vm (e.ms.map AL)∧Bv w Q 1 vb (e.bys.map fun s=>[Value.string s])∧DP w Q vk e.kids:=by
 cases e;unfold AV at h;exact h
theorem AV.mk_ {e:Ex} {vm vb vk:Value} (h1:Bv w Q 3 vm (e.ms.map AL)) (h2:Bv w Q 1 vb (e.bys.map fun s=>[Value.string s])) (h3:DP w Q vk e.kids):AV w Q e (A8 e vm vb vk):=by
 cases e;unfold AV;exact⟨vm,vb,vk,rfl,h1,h2,h3⟩
theorem DP.nil (w:World) (Q:Nat→Prop):DP w Q (.slice none 0 0) []:=⟨none,0,rfl,⟨Ua _,Ua _⟩,fun h=>absurd h (by simp)⟩
theorem Bv.nil (w:World) (Q:Nat→Prop) (sz:Nat):Bv w Q sz (.slice none 0 0) []:=⟨none,0,rfl,⟨Ua _,Ua _⟩,fun h=>absurd h (by simp)⟩
theorem Bv.slice {sz:Nat} {v:Value} {rows:List (List Value)} (h:Bv w Q sz v rows):∃A n c,v= .slice A n c∧n=rows.length∧n≤c:=by
 obtain⟨A,c,rfl,hc,_⟩:=h;exact⟨A,_,c,rfl,rfl,hc.1⟩
theorem DP.slice {v:Value} {es:List Ex} (h:DP w Q v es):∃A n c,v= .slice A n c∧n=es.length∧n≤c:=by
 obtain⟨A,c,rfl,hc,_⟩:=h;exact⟨A,_,c,rfl,rfl,hc.1⟩
theorem Bp.of {b:Nat}:∀{es:List Ex} {o:Nat},(∀(j:Nat) (e:Ex),es[j]? =some e→∃cs,w.rangeAt b (o+j*11) cs∧AV w Q e cs)→Bp w Q b o es
 |[],_,_=>by unfold Bp;trivial
 |e::es,o,h=>by
  unfold Bp;refine⟨by simpa using h 0 e rfl,Bp.of fun j e' hj=>?_⟩;have:=h (j+1) e' (by simpa using hj);rwa[show o+(j+1)*11=o+11+j*11 by omega]at this
theorem Bv.loose {sz:Nat} {v:Value} {rows:List (List Value)} (h:Bv w Q sz v rows):BE w Q sz v rows:=by
 obtain⟨A,c,hv,hc,hx⟩:=h;exact⟨A,c,hv,hc.1,hx⟩
theorem Bv.tight {sz:Nat} {v:Value} {rows:List (List Value)} (h:Bv w Q sz v rows):∃A,v= .slice A rows.length rows.length:=by
 obtain⟨A,c,hv,hc,hx⟩:=h;exact⟨A,by rw[hv,show c=rows.length by omega]⟩
theorem DP.tight {v:Value} {es:List Ex} (h:DP w Q v es):∃A,v= .slice A es.length es.length:=by
 obtain⟨A,c,hv,hc,hx⟩:=h;exact⟨A,by rw[hv,show c=es.length by omega]⟩
mutual
theorem AV.loose:∀{e:Ex} {cs:List Value},AV w Q e cs→AN w Q e cs
 | .mk kind fn window offset k num den name ms bys kids,cs,h=>by
  unfold AV at h;unfold AN;obtain⟨vm,vb,vk,h1,h2,h3,A,c,h4,h5,h6⟩:=h;refine⟨vm,vb,vk,h1,h2.loose,h3.loose,A,c,h4,h5.1,fun hn=>?_⟩;obtain⟨b,o,e1,hb,hks⟩:=h6 hn;exact⟨b,o,e1,hb,Bp.loose hks⟩
theorem Bp.loose {b:Nat}:∀{es:List Ex} {o:Nat},Bp w Q b o es→BN w Q b o es
 |[],_,_=>by unfold BN;trivial
 |e::es,o,h=>by
  unfold Bp at h;unfold BN;obtain⟨⟨cs,h1,h2⟩,h3⟩:=h;exact⟨⟨cs,h1,AV.loose h2⟩,Bp.loose h3⟩
end
theorem DP.loose {v:Value} {es:List Ex} (h:DP w Q v es):Ca w Q v es:=by
 obtain⟨A,c,hv,hc,hx⟩:=h;refine⟨A,c,hv,hc.1,fun hn=>?_⟩;obtain⟨b,o,e,hb,hks⟩:=hx hn;exact⟨b,o,e,hb,Bp.loose hks⟩
end
theorem AV.two_le {w:World} {B M M':Nat} {e:Ex} {cs:List Value} (h:AV w (C9 B M w.heap.size) e cs) (hM:M'≤M):AV w (C9 B M' w.heap.size) e cs:=
 AV.keep (S:=fun _=>False) (fun b hb=>⟨hb.2,fun h=>h,by have:=hb.1;omega,hb.2⟩) (Uv w) e cs h
theorem AP {e:Ex} {w:World} {Q:Nat→Prop} {cs:List Value} (h:AV w Q e cs):∀v∈cs,v.oneCell'=true:=AQ h.loose
end Go.Proofs.YtkclnhpofkaclaaGreatDoor
