/- What the card of the law stands on: Clone2, Sep, PFoldT, GenA, TreeX, GenPl. -/
import Derived.Test.YthpflelgbadkcaaGreatDoorRewriteReadsP06
import Derived.Test.YthpflelgbadkcaaGreatDoorRewriteReadsP08
import Derived.Lib.LazyBuf
import Derived.Test.YthpflelgbadkcaaGreatDoorRewriteReadsP16
import Derived.Test.YthpflelgbadkcaaGreatDoorRewriteReadsP07
import Derived.Deep.DeepCutAuto
import Derived.Test.YthpflelgbadkcaaGreatDoorRewriteReadsP01
set_option maxRecDepth 100000
set_option maxHeartbeats 12800000
set_option linter.unusedVariables false
set_option linter.unusedSimpArgs false
namespace Go.Proofs.YthpflelgbadkcaaGreatDoor
open Go.RowKit Pl
def JR (w:World) (sz:Nat) (rows:List (List Value)) (e:Ending) (w':World):Prop:=∃v,e= .returned v∧C0 w' (fun b=>w.heap.size≤b∧b<w'.heap.size) sz v rows∧A5 w w'
theorem JM {P:Program} {t e:TypeId} {sz bytes:Nat} {z:Value} {w:World} {base:Nat} {v sv:Value} {rows news:List (List Value)} {ops:Array Oper} {rest:List Oper} {o:Oper} {a:Act} {Q:Exit→Act→World→Prop} (T:P7 P t e sz bytes z) (hgd:o.guard=none) (s x:Operand)
  (ho:o.op= .call { callee:= .builtin .append,args:=#[s,x],argTypes:=#[t,t] })
  (hs:a.eval s=v) (hown:BJ w base e sz v rows) (hx:a.eval x=sv) {B:Nat} (hr:Ch w B sz sv news) (hev:KQ sz news) (h1:∀r∈news,∀u∈r,u.oneCell'=true)
  (hn:rows.length+news.length≤1099511627) (hbase:base≤w.heap.size)
  (h:∀v' w',BJ w' base e sz v' (rows++news)→AC (fun i=>v.ownBlock=some i) w w'→wpList P ops Q rest (a.put o.dst v') w'):wpList P ops Q (o::rest) a w:=by
 refine wpList_plain hgd fun K hK=>?_
 obtain⟨v',w',hrun,h2,h3,h4⟩:=GJ (P:=P) T o.type hown hr hev h1 hn hbase;unfold Oper.wp execOp;simp only[ho,resolve,invoke,builtin,Sem.run_bind,Sem.run_pure,Result.andThen_ok,List.map_toArray,List.map_cons,List.map_nil,hs,hx,hrun];exact hK _ _ (h v' w' h2 h3)
theorem S7:P7 Tryz.prog 25 68 3 40 (.agg #[.string ⟨#[]⟩,.int .i64 0,.string ⟨#[]⟩]):=⟨Tryz.underlying25,by kernel_rfl,rfl,by decide,by decide⟩
theorem Lx (v:Value) (rows:List (List Value)) (w:World) (h:Ch w w.heap.size 3 v rows) (hev:KQ 3 rows) (h1:∀r∈rows,∀u∈r,u.oneCell'=true) (hn:rows.length≤1000000):Calls Tryz.prog 38 #[v] w (JR w 3 rows):=by
 obtain⟨A,c,rfl,hc,hx⟩:=h;obtain⟨n,hnn⟩:∃n,rows.length=n:=⟨_,rfl⟩;have hrd:∀w',A5 w w'→Ch w' w'.heap.size 3 (.slice A rows.length c) rows:=fun w' g=>Ch.keep (B:=w.heap.size) ⟨A,c,rfl,hc,hx⟩ (SD _) g.size g (fun _ _ h=>h)
 rw[hnn]at hc hx hrd;have HN:=S9 hnn;have HX:=S9 hx;have HRD:=S9 hrd;have HEV:=S9 (SC hev h1);clear hx hev h1 hrd;rw[hnn];clear hnn;go_enter Tryz.func38,Tryz.ntmps38;have heq:=fun w=>run_eql_slice_nil (P:=Tryz.prog) w 25 68 A n c Tryz.underlying25
 rcases A with _|ad
 ·have HR0:=S9 (show rows=[]from by
   rcases hr:rows with _|⟨r,rs⟩
   ·rfl
   obtain⟨b,o,h, -⟩:=HX.out (by have:=HN.out;rw[hr]at this;simp at this;omega);cases h)
  go_wp2_with fail;go_ret;refine⟨_,rfl,?_,Sa _⟩;rw[HR0.out];exact C0.nil _ _ _
 go_wp2_with(at_builtin;refine JM S7 rfl (.tmp 5) (.tmp 6) rfl rfl (BJ.made (base:=w.heap.size) (c:=0) #[] rfl (by decide) (SD _)) rfl (HRD.out _ ((Sa w).alloc _)) HEV.out.1 HEV.out.2 (by have:=HN.out;simp;omega) (by simp) ?_;intro v' w3 hM k3;have HM:=S9 hM;have HK:=S9 k3;clear hM k3);go_ret;refine⟨_,rfl,(HM.out.own).keep (S:=fun _=>False) (fun b hb=>⟨(HM.out.lt b hb).2,fun h=>h,(HM.out.lt b hb).1,(HM.out.lt b hb).2⟩) (Sa _),Sb ((Sa w).alloc _) HK.out fun i hi e=>by
  have h:some w.heap.size=some i:=e;injection h with h;omega⟩
theorem S8:P7 Tryz.prog 26 9 1 16 (.string ⟨#[]⟩):=⟨Tryz.underlying26,by kernel_rfl,rfl,by decide,by decide⟩
theorem Lu (v:Value) (rows:List (List Value)) (w:World) (h:Ch w w.heap.size 1 v rows) (hev:KQ 1 rows) (h1:∀r∈rows,∀u∈r,u.oneCell'=true) (hn:rows.length≤1000000):Calls Tryz.prog 39 #[v] w (JR w 1 rows):=by
 obtain⟨A,c,rfl,hc,hx⟩:=h;obtain⟨n,hnn⟩:∃n,rows.length=n:=⟨_,rfl⟩;have hrd:∀w',A5 w w'→Ch w' w'.heap.size 1 (.slice A rows.length c) rows:=fun w' g=>Ch.keep (B:=w.heap.size) ⟨A,c,rfl,hc,hx⟩ (SD _) g.size g (fun _ _ h=>h)
 rw[hnn]at hc hx hrd;have HN:=S9 hnn;have HX:=S9 hx;have HRD:=S9 hrd;have HEV:=S9 (SC hev h1);clear hx hev h1 hrd;rw[hnn];clear hnn;go_enter Tryz.func39,Tryz.ntmps39;have heq:=fun w=>run_eql_slice_nil (P:=Tryz.prog) w 26 9 A n c Tryz.underlying26
 rcases A with _|ad
 ·have HR0:=S9 (show rows=[]from by
   rcases hr:rows with _|⟨r,rs⟩
   ·rfl
   obtain⟨b,o,h, -⟩:=HX.out (by have:=HN.out;rw[hr]at this;simp at this;omega);cases h)
  go_wp2_with fail;go_ret;refine⟨_,rfl,?_,Sa _⟩;rw[HR0.out];exact C0.nil _ _ _
 go_wp2_with(at_builtin;refine JM S8 rfl (.tmp 5) (.tmp 6) rfl rfl (BJ.made (base:=w.heap.size) (c:=0) #[] rfl (by decide) (SD _)) rfl (HRD.out _ ((Sa w).alloc _)) HEV.out.1 HEV.out.2 (by have:=HN.out;simp;omega) (by simp) ?_;intro v' w3 hM k3;have HM:=S9 hM;have HK:=S9 k3;clear hM k3);go_ret;refine⟨_,rfl,(HM.out.own).keep (S:=fun _=>False) (fun b hb=>⟨(HM.out.lt b hb).2,fun h=>h,(HM.out.lt b hb).1,(HM.out.lt b hb).2⟩) (Sa _),Sb ((Sa w).alloc _) HK.out fun i hi e=>by
  have h:some w.heap.size=some i:=e;injection h with h;omega⟩
theorem Pu (l:List Mt):KQ 3 (l.map Au):=by
 intro r hr;obtain⟨m, -,rfl⟩:=List.mem_map.1 hr;rfl
theorem QN (l:List Mt):∀r∈l.map Au,∀u∈r,u.oneCell'=true:=by
 intro r hr;obtain⟨m, -,rfl⟩:=List.mem_map.1 hr;exact DP m
theorem OE (l:List ByteArray):KQ 1 (l.map fun s=>[Value.string s]):=by
 intro r hr;obtain⟨m, -,rfl⟩:=List.mem_map.1 hr;rfl
theorem PE (l:List ByteArray):∀r∈l.map (fun s=>[Value.string s]),∀u∈r,u.oneCell'=true:=by
 intro r hr;obtain⟨m, -,rfl⟩:=List.mem_map.1 hr;intro u hu;obtain rfl:=SJ.1 hu;rfl
theorem Hx:∀(k:Nat) (e:Ex),AL e≤k→k≤1000000→BL Be e→∀(w:World) (cs:List Value),BZ w w.heap.size e cs→
  Calls Tryz.prog 28 #[.agg cs.toArray] w (FG w 0 e)
 |0,e,h,_,_,_,_,_=>absurd (Aw e) (by omega)
 |k+1,e,hk,hk2,hok,w,cs,hr=>by
  obtain⟨vm,vb,vk,rfl,hm,hy,hT⟩:=hr.open_;obtain⟨Am,nm,km,rfl⟩:∃A n c,vm= .slice A n c:=by obtain⟨A,c,h, -⟩:=hm;exact⟨A,_,c,h⟩
  obtain⟨Ab,nb,kb,rfl⟩:∃A n c,vb= .slice A n c:=by obtain⟨A,c,h, -⟩:=hy;exact⟨A,_,c,h⟩
  obtain⟨A,n,c,rfl,hn, -⟩:=hT.slice;have hne:=B9 e;have hkl:=Bh e.kids;have HIH:=S9 (fun(e':Ex) (w':World) (cs:List Value) (h1:e'∈e.kids) (h2:BZ w' w'.heap.size e' cs)=>Hx k e' (by have:=Aa h1;omega) (by omega) (hok.kid h1) w' cs h2);have HT:=S9 hT;have HN:=S9 hn;have HMY:=S9 (SC hm hy);have hnb:n≤1000000:=by omega
  obtain⟨hb1,hb2,hG⟩:=Bz w 29 29 (AE e (.slice Am nm km) (.slice Ab nb kb) (.slice A n c)).toArray (AH 0 0).toArray;have hs2:((w.alloc (.cells (AE e (.slice Am nm km) (.slice Ab nb kb) (.slice A n c)).toArray 29)).alloc (.cells (AH 0 0).toArray 29)).heap.size=w.heap.size+2:=by simp
  have hx:=hok.top.2;have HCM:=S9 (fun w' (g:A5 ((w.alloc (.cells (AE e (.slice Am nm km) (.slice Ab nb kb) (.slice A n c)).toArray 29)).alloc (.cells (AH 0 0).toArray 29)) w')=>Lx (.slice Am nm km) (e.ms.map Au) w' (hm.keep (SD _) (hG.trans g).size (hG.trans g) (fun _ _ h=>h)) (Pu e.ms) (QN e.ms) (by have:=hx.2.2.2.1;simp;omega));have HCB:=S9 (fun w' (g:A5 ((w.alloc (.cells (AE e (.slice Am nm km) (.slice Ab nb kb) (.slice A n c)).toArray 29)).alloc (.cells (AH 0 0).toArray 29)) w')=>Lu (.slice Ab nb kb) (e.bys.map fun s=>[Value.string s]) w' (hy.keep (SD _) (hG.trans g).size (hG.trans g) (fun _ _ h=>h)) (OE e.bys) (PE e.bys) (by have:=hx.2.2.2.2;simp;omega));clear hx;clear hr hm hy hT hn hne hkl hk hk2 hok;go_enter Tryz.func28,Tryz.ntmps28;go_upto_region 1 with fail;change Code.wp _ _ _ _ ((w.alloc (.cells (AE e (.slice Am nm km) (.slice Ab nb kb) (.slice A n c)).toArray 29)).alloc (.cells (AH 0 0).toArray 29));generalize (w.alloc (.cells (AE e (.slice Am nm km) (.slice Ab nb kb) (.slice A n c)).toArray 29)).alloc (.cells (AH 0 0).toArray 29)=w1 at*;have HS:=S9 hs2;clear hs2;refine B8 [(7,fun w'=>w'.cell? ⟨w.heap.size,8,none⟩=some (.slice Am nm km)),(9,fun w'=>w'.cell? ⟨w.heap.size,9,none⟩=some (.slice Ab nb kb))] (by kernel_rfl) (by intro pp hp;rcases List.mem_cons.1 hp with rfl|hp;exact hb1.drew.cell 8;obtain rfl:=SJ.1 hp;exact hb1.drew.cell 9) ?_;intro hcl hkn
  refine' B1 (i:=0) (v:=_) rfl (by kernel_rfl) (by kernel_rfl) (by kernel_rfl) hcl hkn (by rfl) (fun _ _ _ h=>h) rfl ?_ ?_
  rotate_left
  ·intro w';go_simp;try with_reducible rfl
  clear hcl hkn;intro hcl hkn;simp only[Bn]
  refine' D7 7 _ (i:=1) (v:=_) rfl (by kernel_rfl) (by kernel_rfl) (by kernel_rfl) hcl hkn (by rfl) 0 rfl (by kernel_rfl) (fun _ _ _ h=>h) rfl ?_ ?_
  rotate_left
  ·rintro w' hc;go_simp;try with_reducible rfl
  clear hcl hkn;intro hcl hkn;simp only[Bn]
  refine' B1 (i:=3) (v:=_) rfl (by kernel_rfl) (by kernel_rfl) (by kernel_rfl) hcl hkn (by rfl) (fun _ _ _ h=>h) rfl ?_ ?_
  rotate_left
  ·intro w';go_simp;try with_reducible rfl
  clear hcl hkn;intro hcl hkn;simp only[Bn]
  refine' D7 9 _ (i:=4) (v:=_) rfl (by kernel_rfl) (by kernel_rfl) (by kernel_rfl) hcl hkn (by rfl) 1 rfl (by kernel_rfl) (fun _ _ _ h=>h) rfl ?_ ?_
  rotate_left
  ·rintro w' hc;go_simp;try with_reducible rfl
  clear hcl hkn;intro hcl hkn;simp only[Bn];refine AV hcl (i:=2) (by kernel_rfl) rfl rfl (fun K hK=>?_);go_simp;refine(HCM.out _ (Sd (Sa w1))).mono ?_;rintro e2 w2 ⟨vM,rfl,qM,k2⟩;have b2:=hb1.drew.grew k2;refine hK _ _ (Fd (.inr (b2.cell 8)) (.inr (b2.cell 9))) ?_;have g2:A5 w1 w2:=(Sd (Sa w1)).trans k2;have HQM:=S9 qM;obtain⟨AM,nM,kM,rfl, -⟩:=qM.slice;clear qM k2;clear hK K hcl hkn;intro hcl hkn
  try simp only[Bn]
  refine' B1 (i:=6) (v:=_) rfl (by kernel_rfl) (by kernel_rfl) (by kernel_rfl) hcl hkn (by rfl) (fun _ _ _ h=>h) rfl ?_ ?_
  rotate_left
  ·intro w';go_simp;try with_reducible rfl
  clear hcl hkn;intro hcl hkn;simp only[Bn];refine AV hcl (i:=5) (by kernel_rfl) rfl rfl (fun K hK=>?_);go_simp;refine(HCB.out _ g2).mono ?_;rintro e3 w3 ⟨vB,rfl,qB,k3⟩;have b3:=b2.grew k3;refine hK _ _ (Fd (.inr (b3.cell 8)) (.inr (b3.cell 9))) ?_;have HQB:=S9 qB;have HK3:=S9 k3;obtain⟨AB,nB,kB,rfl, -⟩:=qB.slice;have c8:w3.cell? ⟨w.heap.size,8,none⟩=some (.slice Am nm km):=b3.cell 8;have f8:w3.frozen? ⟨w.heap.size,8,none⟩=false:=b3.frozen 8;clear qB k3;clear hK K hcl hkn;intro hcl hkn
  try simp only[Bn]
  refine AV hcl (i:=7) (by kernel_rfl) rfl rfl (fun K hK=>?_);go_simp;have b4:=b3.set_ 8 (.slice AM nM kM);refine hK _ _ (Fd (.inl (by kernel_rfl)) (.inr (b4.cell 9))) ?_;have c9:(w3.setCell ⟨w.heap.size,8,none⟩ (.slice AM nM kM)).cell? ⟨w.heap.size,9,none⟩=some (.slice Ab nb kb):=b4.cell 9;have f9:(w3.setCell ⟨w.heap.size,8,none⟩ (.slice AM nM kM)).frozen? ⟨w.heap.size,9,none⟩=false:=b4.frozen 9;clear c8 f8;clear hK K hcl hkn;intro hcl hkn
  try simp only[Bn]
  refine' B1 (i:=8) (v:=_) rfl (by kernel_rfl) (by kernel_rfl) (by kernel_rfl) hcl hkn (by rfl) (fun _ _ _ h=>h) rfl ?_ ?_
  rotate_left
  ·intro w';go_simp;try with_reducible rfl
  clear hcl hkn;intro hcl hkn;simp only[Bn];refine AV hcl (i:=9) (by kernel_rfl) rfl rfl (fun K hK=>?_);go_simp;have b5:=b4.set_ 9 (.slice AB nB kB);refine hK _ _ (Fd (.inl (by kernel_rfl)) (.inl (by kernel_rfl))) ?_;clear hK K hcl hkn;intro hcl hkn
  try simp only[Bn]
  refine BK (by kernel_rfl) ?_ _;have b5':Ag ((w3.setCell ⟨w.heap.size,8,none⟩ (.slice AM nM kM)).setCell ⟨w.heap.size,9,none⟩ (.slice AB nB kB)) w.heap.size 29 (AE e (.slice AM nM kM) (.slice AB nB kB) (.slice A n c)).toArray:=b5;have k5:AC (fun i=>i=w.heap.size) w3 ((w3.setCell ⟨w.heap.size,8,none⟩ (.slice AM nM kM)).setCell ⟨w.heap.size,9,none⟩ (.slice AB nB kB)):=Sf (S:=fun i=>i=w.heap.size) (p:=⟨w.heap.size,9,none⟩) (Sf (S:=fun i=>i=w.heap.size) (p:=⟨w.heap.size,8,none⟩) (Se _ w3) (.inl rfl) _) (.inl rfl) _;have g3:A5 w1 w3:=g2.trans HK3.out;have hs2:=HS.out;have hd1:w1.drew.heap.size=w1.heap.size:=rfl;have rM:C0 ((w3.setCell ⟨w.heap.size,8,none⟩ (.slice AM nM kM)).setCell ⟨w.heap.size,9,none⟩ (.slice AB nB kB)) (fun b=>w.heap.size+2≤b∧b<w3.heap.size) 3 (.slice AM nM kM) (e.ms.map Au):=HQM.out.keep (S:=fun i=>i=w.heap.size) (fun b hb=>⟨hb.2,fun h=>by have:=hb.1;omega,by have:=hb.1;omega,by have:=hb.2;have:=HK3.out.size;omega⟩) (Sb (Si HK3.out) k5 fun i _ h=>h);have rB:C0 ((w3.setCell ⟨w.heap.size,8,none⟩ (.slice AM nM kM)).setCell ⟨w.heap.size,9,none⟩ (.slice AB nB kB)) (fun b=>w.heap.size+2≤b∧b<w3.heap.size) 1 (.slice AB nB kB) (e.bys.map fun s=>[Value.string s]):=HQB.out.keep (S:=fun i=>i=w.heap.size) (fun b hb=>⟨hb.2,fun h=>by have:=hb.1;have:=g2.size;omega,by have:=hb.1;have:=g2.size;omega,hb.2⟩) k5;have hg5:A5 w ((w3.setCell ⟨w.heap.size,8,none⟩ (.slice AM nM kM)).setCell ⟨w.heap.size,9,none⟩ (.slice AB nB kB)):=Sb (hG.trans g3) k5 fun i hi e=>by omega
  have bz:Ag ((w3.setCell ⟨w.heap.size,8,none⟩ (.slice AM nM kM)).setCell ⟨w.heap.size,9,none⟩ (.slice AB nB kB)) (w.heap.size+1) 29 (AH 0 0).toArray:=((hb2.grew g3).far (p:=⟨w.heap.size,8,none⟩) (by simp) _).far (p:=⟨w.heap.size,9,none⟩) (by simp) _;have hs5:=k5.size;have HB:=S9 (SC b5' (SC bz (SC hg5 (SC rM rB))));have HSZ:=S9 (show w.heap.size+2≤((w3.setCell ⟨w.heap.size,8,none⟩ (.slice AM nM kM)).setCell ⟨w.heap.size,9,none⟩ (.slice AB nB kB)).heap.size∧w3.heap.size≤((w3.setCell ⟨w.heap.size,8,none⟩ (.slice AM nM kM)).setCell ⟨w.heap.size,9,none⟩ (.slice AB nB kB)).heap.size by have:=g3.size;omega);clear b5 b5' k5 g3 hs2 hd1 rM rB hg5 bz b2 b3 b4 c9 f9 hb1 hb2 hG g2 hs5 HQM HQB HCM HCB;generalize w3.heap.size=z3 at*;generalize (w3.setCell ⟨w.heap.size,8,none⟩ (.slice AM nM kM)).setCell ⟨w.heap.size,9,none⟩ (.slice AB nB kB)=w5 at*;clear hcl hkn;have c10:w5.cell? ⟨w.heap.size,10,none⟩=some (.slice A n c):=HB.out.1.cell 10;go_upto_region 3 with(first|((with_reducible refine Jo 27 (.const (.int .i64 0)) (.tmp 16) rfl ?_);refine Lv rfl (.const (.int .i64 0)) (.tmp 16) rfl n rfl rfl hnb ?_;intro w6 hM6 g6));have HM6:=S9 hM6;have HB6:=S9 (show Ag w6 w.heap.size 29 (AE e (.slice AM nM kM) (.slice AB nB kB) (.slice A n c)).toArray∧Ag w6 (w.heap.size+1) 29 (AH 0 0).toArray∧A5 w w6∧C0 w6 (fun b=>w.heap.size+2≤b∧b<w5.heap.size) 3 (.slice AM nM kM) (e.ms.map Au)∧C0 w6 (fun b=>w.heap.size+2≤b∧b<w5.heap.size) 1 (.slice AB nB kB) (e.bys.map fun s=>[Value.string s])from⟨HB.out.1.grew g6,HB.out.2.1.grew g6,HB.out.2.2.1.trans g6,HB.out.2.2.2.1.keep (S:=fun _=>False) (fun b hb=>⟨by have:=HSZ.out;omega,fun h=>h,hb.1,by have:=HSZ.out;omega⟩) g6,HB.out.2.2.2.2.keep (S:=fun _=>False) (fun b hb=>⟨by have:=HSZ.out;omega,fun h=>h,hb.1,by have:=HSZ.out;omega⟩) g6⟩);have HS6:=S9 (show w.heap.size+2≤w5.heap.size∧w5.heap.size≤w6.heap.size from⟨HSZ.out.1,g6.size⟩);clear hM6 g6 c10 HB HSZ HK3;have c10:w6.cell? ⟨w.heap.size,10,none⟩=some (.slice A n c):=HB6.out.1.cell 10;generalize w5.heap.size=M at*;go_wp2_with fail;go_loopw [3,5,21] (fun s _ i wr=>∃(j:Nat) (rows:List (List Value)),j≤n∧i= .int .i64 (j:Nat)∧BJ wr M 29 11 s rows∧CL wr (J6 0 M s wr.heap.size) (e.kids.take j) rows∧AC (fun i=>M≤i) w6 wr) (fun _ _ i _=>n-(intOf i).toNat)
  case atStart=>exact⟨0,[],by omega,rfl,HM6.out,by simpa using CL.nil _ _,Se _ _⟩
  case round=>
   obtain⟨j,rows,hj,rfl,hM,hTr,hGr⟩:=hrel;obtain⟨As,ns,ks,rfl,hns, -⟩:=hM.slice;have HM:=S9 hM;have HTr:=S9 hTr;have HNS:=S9 hns;have HGr:=S9 hGr;clear hM hTr hns hGr;by_cases hlt:j<n
   ·have hjl:j<e.kids.length:=by rw[←HN.out];exact hlt
    obtain⟨e',he'⟩:∃e',e.kids[j]? =some e':=⟨_,SF hjl⟩;have hmem:e'∈e.kids:=SN he';have hgw:A5 w wr:=Sb HB6.out.2.2.1 HGr.out fun i hi (e:M≤i)=>by have:=HS6.out;omega
    have hTw:I1 wr wr.heap.size (.slice A n c) e.kids:=HT.out.grew hgw;obtain⟨b,o,cs,rfl,hb,hrg,hre⟩:=hTw.at_ he';obtain⟨vm',vb',vk',hcs,hm',hy',hT'⟩:=hre.open_;subst hcs;obtain⟨A1,n1,c1,rfl⟩:∃A n c,vm'= .slice A n c:=by obtain⟨A,c,h, -⟩:=hm';exact⟨A,_,c,h⟩
    obtain⟨A2,n2,c2,rfl⟩:∃A n c,vb'= .slice A n c:=by obtain⟨A,c,h, -⟩:=hy';exact⟨A,_,c,h⟩
    obtain⟨A3,n3,c3,rfl, -⟩:=hT'.slice;have hsw:M≤wr.heap.size:=by have:=HGr.out.size;have:=HS6.out;omega
    have HI:=S9 (fun w' (g:A5 wr w')=>HIH.out e' w' _ hmem (hre.grew g));have HE:=S9 he';have HRg:=S9 hrg;have HSW:=S9 hsw;clear hjl he' hmem hTw hrg hre hm' hy' hT' hsw hgw hb;go_wp2_with(first|((with_reducible refine AG 29 (.tmp 23) rfl ?_);refine wpList_load_mid rfl 29 (.tmp 23) rfl b (o+j*11) rfl (AE e' (.slice A1 n1 c1) (.slice A2 n2 c2) (.slice A3 n3 c3)) _ HRg.out Tryz.underlying29 rfl AD ?_)|((with_reducible refine AF 29 (.tmp 5) (.tmp 24) rfl ?_);refine Ar 29 (.tmp 5) (.tmp 24) (wr.heap.size) (AE e' (.slice A1 n1 c1) (.slice A2 n2 c2) (.slice A3 n3 c3)) (AH 0 0) 29 AD rfl (Ay _ _ _ _ _ _ _ _ _ _) rfl rfl rfl rfl (Sc wr 29 _) ?_;intro w7 hb7 k7 d7;have g7:A5 wr w7:=Sb ((Sa wr).alloc _) k7 (fun i hi e=>by omega))|((with_reducible refine AG 29 (.tmp 5) rfl ?_);refine BR 29 Tryz.underlying29 rfl (.tmp 5) (wr.heap.size) (AE e' (.slice A1 n1 c1) (.slice A2 n2 c2) (.slice A3 n3 c3)) 29 AD rfl rfl rfl hb7 ?_));refine(HI.out _ g7).mono ?_;rintro e2 w8 ⟨cs3,rfl,hr3,k3⟩;obtain⟨vm3,vb3,vk3,rfl,hm3,hy3,hT3⟩:=hr3.open_;obtain⟨Am3,nm3,km3,rfl, -⟩:=hm3.slice;obtain⟨Ab3,nb3,kb3,rfl, -⟩:=hy3.slice;obtain⟨A3',n3',c3',rfl, -⟩:=hT3.slice;have HR3:=S9 (AW.two_le (M':=wr.heap.size) hr3 g7.size);have HK3:=S9 (g7.trans k3);have hl3:=Ck e' (.slice Am3 nm3 km3) (.slice Ab3 nb3 kb3) (.slice A3' n3' c3');clear k3 HI hr3 hm3 hy3 hT3 g7 hb7 k7 d7;go_wp2_with(at_builtin;refine J0 rfl (.tmp 25) (.tmp 28) rfl rfl rfl (SD _) HM.out HTr.out (Nat.zero_le _) HSW.out HK3.out HR3.out (by rw[List.length_take];omega) ?_;intro A6 n6 c6 w9 H6);go_wp2_with fail;go_roundw
    case rel=>
     obtain⟨rows6,hM6,hT6,hG6⟩:=H6.out;have hes:e.kids.take j++[e']=e.kids.take (j+1):=by rw[List.take_add_one,HE.out];simp
     rw[hes]at hT6;exact⟨j+1,_,by omega,by go_num,hM6,hT6,AC.trans HGr.out hG6⟩
    case measure=>simp[intOf];omega
   obtain rfl:j=n:=by omega
   have hes:e.kids.take j=e.kids:=List.take_of_length_le (by rw[←HN.out];exact SD _);have hTr:=HTr.out;have hM:=HM.out;rw[hes]at hTr;have hm1:=hM.lt;have hsz:=HS6.out;have hsr:=HGr.out.size;have hTQ:DH wr (CW 0 M wr.heap.size) (.slice As ns ks) e.kids:=hM.treesQ hTr.1 (fun b hb=>⟨.inr (hm1 b hb).1,(hm1 b hb).2⟩) fun i e' cs h1 h2=>AW.keep (S:=fun _=>False) (fun b hb=>⟨hb.2.1,fun h=>h,hb.1,hb.2.1⟩) (Sa wr) e' cs (hTr.2 i e' cs h1 h2)
   have hbr:=HB6.out.1.keep HGr.out (by omega);have hb2:=HB6.out.2.1.keep HGr.out (by omega);have hgw:A5 w wr:=Sb HB6.out.2.2.1 HGr.out fun i hi (e:M≤i)=>by omega
   have f10:=hbr.frozen 10;have c10':wr.cell? ⟨w.heap.size,10,none⟩=some (.slice A j c):=hbr.cell 10;have hb4:Ag (wr.setCell ⟨w.heap.size,10,none⟩ (.slice As ns ks)) w.heap.size 29 ((AE e (.slice AM nM kM) (.slice AB nB kB) (.slice As ns ks))).toArray:=hbr.set_ 10 (.slice As ns ks);have k4:AC (fun i=>i=w.heap.size) wr (wr.setCell ⟨w.heap.size,10,none⟩ (.slice As ns ks)):=Sf (S:=fun i=>i=w.heap.size) (p:=⟨w.heap.size,10,none⟩) (Se _ wr) (.inl rfl) _;have hsz4:(wr.setCell ⟨w.heap.size,10,none⟩ (.slice As ns ks)).heap.size=wr.heap.size:=by simp
   have b24:=hb2.far (p:=⟨w.heap.size,10,none⟩) (by simp) (.slice As ns ks);have rM4:C0 (wr.setCell ⟨w.heap.size,10,none⟩ (.slice As ns ks)) (fun b=>(w.heap.size+2≤b)∧b<M) 3 (.slice AM nM kM) (e.ms.map Au):=HB6.out.2.2.2.1.keep (S:=fun i=>M≤i∨i=w.heap.size) (fun b hb=>⟨by omega,fun h=>by rcases h with h|h<;>omega,hb⟩) (Sb (AC.mono HGr.out fun i _ h=> .inl h) k4 fun i _ h=> .inr h);have rB4:C0 (wr.setCell ⟨w.heap.size,10,none⟩ (.slice As ns ks)) (fun b=>(w.heap.size+2≤b)∧b<M) 1 (.slice AB nB kB) (e.bys.map fun s=>[Value.string s]):=HB6.out.2.2.2.2.keep (S:=fun i=>M≤i∨i=w.heap.size) (fun b hb=>⟨by omega,fun h=>by rcases h with h|h<;>omega,hb⟩) (Sb (AC.mono HGr.out fun i _ h=> .inl h) k4 fun i _ h=> .inr h);have HE4:=S9 (SC rM4 (SC rB4 (SC hTQ (SC k4 (SC hsz4 hgw)))));clear hTQ hbr hb2 hgw k4 hsz4 hM hTr HM HTr HNS hes hm1 hsz c10 rM4 rB4 hsr;go_upto_region 9 with fail;generalize wr.setCell ⟨w.heap.size,10,none⟩ (.slice As ns ks)=w4 at*;go_wp2_with(first|((with_reducible refine AG 29 (.tmp 1) rfl ?_);refine BR 29 Tryz.underlying29 rfl (.tmp 1) (w.heap.size) (AE e (.slice AM nM kM) (.slice AB nB kB) (.slice As ns ks)) 29 AD rfl rfl rfl hb4 ?_)|((with_reducible refine AF 29 (.tmp 2) (.tmp 33) rfl ?_);refine Ar 29 (.tmp 2) (.tmp 33) (w.heap.size+1) (AE e (.slice AM nM kM) (.slice AB nB kB) (.slice As ns ks)) (AH 0 0) 29 AD rfl (Ay _ _ _ _ _ _ _ _ _ _) rfl rfl rfl rfl b24 ?_;intro w8 hb8 k8 d8));refine bodyPost_ret (AP rfl rfl AD Tryz.underlying29 rfl hb8) rfl ?_;obtain⟨rM4,rB4,hTQ,k4,hsz4,hgw⟩:=HE4.out;have hsz:=HS6.out;have hsr:=HGr.out.size;have hgw4:A5 w w4:=Sb hgw k4 fun i hi e=>by omega
   refine⟨_,rfl,?_,Sb hgw4 k8 (fun i hi e=>by omega)⟩;refine De (M:=w.heap.size+2) k8 (Nat.zero_le _) (SD _) (AW.mk_ ?_ ?_ ?_)
   ·exact rM4.keep (S:=fun _=>False) (fun b hb=>⟨by omega,fun h=>h,.inr hb.1,by omega⟩) (Sa _)
   ·exact rB4.keep (S:=fun _=>False) (fun b hb=>⟨by omega,fun h=>h,.inr hb.1,by omega⟩) (Sa _)
   exact hTQ.keep (S:=fun i=>i=w.heap.size) (fun b hb=>⟨hb.2,fun h=>by rcases hb.1 with h1|h1<;>omega,by rcases hb.1 with h1|h1;omega;exact .inr (by omega),by have:=hb.2;omega⟩) k4
theorem E9 {f:Ex→Ex}:∀(es:List Ex),(∀e∈es,AL (f e)≤AL e)→Af (es.map f)≤Af es
 |[],_=>SD _
 |e::es,h=>by
  rw[List.map_cons];unfold Af;have h1:=h e List.mem_cons_self;have h2:=E9 es fun e' he=>h e' (List.mem_cons_of_mem _ he)
  omega
theorem Hz (x y:Int):Qn (BG x y):=by
 have h0:Li (BG x y).name:=⟨fun i h=>absurd h (by show ¬i<0;omega),by show 0≤1000;omega⟩;exact⟨h0,(fun m hm=>nomatch hm),(fun m hm=>nomatch hm),Nat.zero_le _,Nat.zero_le _⟩
def GS (w:World) (g B:Nat) (v:Value) (l:List Int) (i:Nat):Prop:=Ag w g 63 #[v,.int .i64 (i:Nat)]∧Rd w B v (l.map vi)∧B≤g∧(∀x∈l,Bc x)∧l.length≤1000000000000000
theorem GS.grew {w w':World} {g B:Nat} {v:Value} {l:List Int} {i:Nat} (h:GS w g B v l i) (hg:A5 w w'):GS w' g B v l i:=
 ⟨h.1.grew hg,h.2.1.grew (SH h.2.2.1 (Nat.le_of_lt h.1.lt)) hg,h.2.2⟩
def Bt (g B:Nat) (v:Value) (l:List Int) (i m:Nat) (w:World) (e:Ending) (w':World):Prop:=∃r:Nat,r<m∧e= .returned (.int .i64 (r:Nat))∧GS w' g B v l (i+1)∧AC (fun b=>b=g) w w'
theorem BS (w:World) (g B:Nat) (v:Value) (l:List Int) (i m:Nat) (h:GS w g B v l i) (hi:i≤100000) (hm:0<m) (hm2:m≤100000):
  Calls Tryz.prog 51 #[.pointer (some ⟨g,0,none⟩),.int .i64 (m:Nat)] w (Bt g B v l i m w):=by
 obtain⟨hb,hr,hB,hl,hll⟩:=h;obtain⟨A,n,c,rfl,hn,hc⟩:=hr.form;have c0:w.cell? ⟨g,0,none⟩=some (.slice A n c):=hb.cell 0;have c1:w.cell? ⟨g,1,none⟩=some (.int .i64 (i:Nat)):=hb.cell 1;have f1:w.frozen? ⟨g,1,none⟩=false:=hb.frozen 1;have hb2:Ag (w.setCell ⟨g,1,none⟩ (.int .i64 ((i:Int)+1))) g 63 #[.slice A n c,.int .i64 ((i:Int)+1)]:=hb.set_ 1 _;have k2:AC (fun b=>b=g) w (w.setCell ⟨g,1,none⟩ (.int .i64 ((i:Int)+1))):=Sf (S:=fun b=>b=g) (p:=⟨g,1,none⟩) (Se _ w) (.inl rfl) _;have hgl:=hb.lt;have hr2:=hr.keep (by omega) k2 (fun i hi e=>by omega);have HB:=S9 (SC hb2 (SC k2 hr2));have HL:=S9 (SC hl hll);have HBB:=S9 hB;have HGL:=S9 hgl;clear hb hr hB hl hll hn hc hb2 k2 hr2 hgl;go_enter Tryz.func51,Tryz.ntmps51;go_upto_region 2 with fail;obtain⟨hb2,k2,hr2⟩:=HB.out;generalize w.setCell ⟨g,1,none⟩ (.int .i64 ((i:Int)+1))=w2 at*;have d0:w2.cell? ⟨g,0,none⟩=some (.slice A n c):=hb2.cell 0;have d1:w2.cell? ⟨g,1,none⟩=some (.int .i64 ((i:Int)+1)):=hb2.cell 1;have HP:=S9 (fun w' (hg:A5 w2 w')=>Nh (.slice A n c) l i m w' ((hr2.grew (by have:=k2.size;have:=HBB.out;have:=HGL.out;omega) hg).more (by have:=k2.size;have:=hg.size;have:=HBB.out;have:=HGL.out;omega)) HL.out.1 HL.out.2 (by omega) hm (by omega));have HR:=S9 (P5 l i m hm);have HW:=S9 (SC hb2 (SC k2 hr2));generalize Hm l i m=r at*;have hwr:IntKind.i64.wrap ((i:Int)+1-1)=(i:Int):=by unfold IntKind.wrap;simp[IntKind.bits,IntKind.signed];omega
 have hwr2:((i:Int)+1-1)=(i:Int):=by omega
 clear hb2 k2 hr2 c0 c1 f1;go_quiet ((go_at_call 23;exact Calls.quiet_of_same (HP.out _ (Sg (Sa _) _))));go_wp2_with fail;go_ret;obtain⟨hb2,k2,hr2⟩:=HW.out;exact⟨r,HR.out,rfl,⟨by rw[show(((i+1:Nat)):Int)=(i:Int)+1 by omega];exact hb2.drewN _,hr2.keep (by have:=k2.size;have:=HBB.out;have:=HGL.out;omega) (Sg (Sa w2) _) (fun _ _ h=>h),HBB.out,HL.out⟩,k2.drewN _⟩
end Go.Proofs.YthpflelgbadkcaaGreatDoor
namespace Go.Proofs.YthpflelgbadkcaaGreatDoor
open Go.RowKit
def CI (w:World) (Q:Nat→Prop) (sz:Nat) (v:Value) (rows:List (List Value)):Prop:=
 ∃A c,v= .slice A rows.length c∧(rows.length≤c∧c≤rows.length)∧(0<rows.length→∃b o,A=some ⟨b,o,none⟩∧Q b∧∀j cs,rows[j]? =some cs→w.rangeAt b (o+j*sz) cs)
mutual
def Ax (w:World) (Q:Nat→Prop):Ex→List Value→Prop
 | .mk kind fn window offset k num den name ms bys kids,cs=>∃vm vb vk,cs=AE (.mk kind fn window offset k num den name ms bys kids) vm vb vk∧CI w Q 3 vm (ms.map Au)∧CI w Q 1 vb (bys.map fun s=>[Value.string s])∧
   ∃A c,vk= .slice A kids.length c∧(kids.length≤c∧c≤kids.length)∧(0<kids.length→∃b o,A=some ⟨b,o,none⟩∧Q b∧By w Q b o kids)
def By (w:World) (Q:Nat→Prop) (b o:Nat):List Ex→Prop
 |[]=>True
 |e::es=>(∃cs,w.rangeAt b o cs∧Ax w Q e cs)∧By w Q b (o+11) es
end
def EK (w:World) (Q:Nat→Prop) (v:Value) (es:List Ex):Prop:=
 ∃A c,v= .slice A es.length c∧(es.length≤c∧c≤es.length)∧(0<es.length→∃b o,A=some ⟨b,o,none⟩∧Q b∧By w Q b o es)
section
variable {w w':World} {Q Q':Nat→Prop} {B:Nat}
theorem CI.keep {sz:Nat} {v:Value} {rows:List (List Value)} {S:Nat→Prop} (h:CI w Q sz v rows) (hq:∀b,Q b→b<w.heap.size∧¬S b∧Q' b) (hk:AC S w w'):CI w' Q' sz v rows:=by
 obtain⟨A,c,hv,hc,hx⟩:=h;refine⟨A,c,hv,hc,fun hn=>?_⟩;obtain⟨b,o,e,hb,hcell⟩:=hx hn;exact⟨b,o,e,(hq b hb).2.2,fun j cs hj=>Ao (hcell j cs hj) (hq b hb).1 hk (hq b hb).2.1⟩
mutual
theorem Ax.keep {S:Nat→Prop} (hq:∀b,Q b→b<w.heap.size∧¬S b∧Q' b) (hk:AC S w w'):∀(e:Ex) (cs:List Value),Ax w Q e cs→Ax w' Q' e cs
 | .mk kind fn window offset k num den name ms bys kids,cs,h=>by
  unfold Ax at h ⊢;obtain⟨vm,vb,vk,h1,h2,h3,A,c,h4,h5,h6⟩:=h;refine⟨vm,vb,vk,h1,h2.keep hq hk,h3.keep hq hk,A,c,h4,h5,fun hn=>?_⟩;obtain⟨b,o,e1,hb,hks⟩:=h6 hn;exact⟨b,o,e1,(hq b hb).2.2,By.keep hq hk b hb kids o hks⟩
theorem By.keep {S:Nat→Prop} (hq:∀b,Q b→b<w.heap.size∧¬S b∧Q' b) (hk:AC S w w') (b:Nat) (hb:Q b):∀(es:List Ex) (o:Nat),By w Q b o es→By w' Q' b o es
 |[],_,_=>by unfold By;trivial
 |e::es,o,h=>by
  unfold By at h ⊢;obtain⟨⟨cs,h1,h2⟩,h3⟩:=h;exact⟨⟨cs,Ao h1 (hq b hb).1 hk (hq b hb).2.1,Ax.keep hq hk e cs h2⟩,By.keep hq hk b hb es (o+11) h3⟩
end
theorem Ax.open_ {e:Ex} {cs:List Value} (h:Ax w Q e cs):∃vm vb vk,cs=AE e vm vb vk∧CI w Q 3 vm (e.ms.map Au)∧CI w Q 1 vb (e.bys.map fun s=>[Value.string s])∧EK w Q vk e.kids:=by
 cases e;unfold Ax at h;exact h
theorem Ax.mk_ {e:Ex} {vm vb vk:Value} (h1:CI w Q 3 vm (e.ms.map Au)) (h2:CI w Q 1 vb (e.bys.map fun s=>[Value.string s])) (h3:EK w Q vk e.kids):Ax w Q e (AE e vm vb vk):=by
 cases e;unfold Ax;exact⟨vm,vb,vk,rfl,h1,h2,h3⟩
theorem EK.nil (w:World) (Q:Nat→Prop):EK w Q (.slice none 0 0) []:=⟨none,0,rfl,⟨SD _,SD _⟩,fun h=>absurd h (by simp)⟩
theorem CI.nil (w:World) (Q:Nat→Prop) (sz:Nat):CI w Q sz (.slice none 0 0) []:=⟨none,0,rfl,⟨SD _,SD _⟩,fun h=>absurd h (by simp)⟩
theorem CI.slice {sz:Nat} {v:Value} {rows:List (List Value)} (h:CI w Q sz v rows):∃A n c,v= .slice A n c∧n=rows.length∧n≤c:=by
 obtain⟨A,c,rfl,hc,_⟩:=h;exact⟨A,_,c,rfl,rfl,hc.1⟩
theorem EK.slice {v:Value} {es:List Ex} (h:EK w Q v es):∃A n c,v= .slice A n c∧n=es.length∧n≤c:=by
 obtain⟨A,c,rfl,hc,_⟩:=h;exact⟨A,_,c,rfl,rfl,hc.1⟩
theorem By.of {b:Nat}:∀{es:List Ex} {o:Nat},(∀(j:Nat) (e:Ex),es[j]? =some e→∃cs,w.rangeAt b (o+j*11) cs∧Ax w Q e cs)→By w Q b o es
 |[],_,_=>by unfold By;trivial
 |e::es,o,h=>by
  unfold By;refine⟨by simpa using h 0 e rfl,By.of fun j e' hj=>?_⟩;have:=h (j+1) e' (by simpa using hj);rwa[show o+(j+1)*11=o+11+j*11 by omega]at this
theorem CI.loose {sz:Nat} {v:Value} {rows:List (List Value)} (h:CI w Q sz v rows):C0 w Q sz v rows:=by
 obtain⟨A,c,hv,hc,hx⟩:=h;exact⟨A,c,hv,hc.1,hx⟩
mutual
theorem Ax.loose:∀{e:Ex} {cs:List Value},Ax w Q e cs→AW w Q e cs
 | .mk kind fn window offset k num den name ms bys kids,cs,h=>by
  unfold Ax at h;unfold AW;obtain⟨vm,vb,vk,h1,h2,h3,A,c,h4,h5,h6⟩:=h;refine⟨vm,vb,vk,h1,h2.loose,h3.loose,A,c,h4,h5.1,fun hn=>?_⟩;obtain⟨b,o,e1,hb,hks⟩:=h6 hn;exact⟨b,o,e1,hb,By.loose hks⟩
theorem By.loose {b:Nat}:∀{es:List Ex} {o:Nat},By w Q b o es→BY w Q b o es
 |[],_,_=>by unfold BY;trivial
 |e::es,o,h=>by
  unfold By at h;unfold BY;obtain⟨⟨cs,h1,h2⟩,h3⟩:=h;exact⟨⟨cs,h1,Ax.loose h2⟩,By.loose h3⟩
end
end
theorem Ax.two_le {w:World} {B M M':Nat} {e:Ex} {cs:List Value} (h:Ax w (CW B M w.heap.size) e cs) (hM:M'≤M):Ax w (CW B M' w.heap.size) e cs:=
 Ax.keep (S:=fun _=>False) (fun b hb=>⟨hb.2,fun h=>h,by have:=hb.1;omega,hb.2⟩) (Sa w) e cs h
theorem AY {e:Ex} {w:World} {Q:Nat→Prop} {cs:List Value} (h:Ax w Q e cs):∀v∈cs,v.oneCell'=true:=Al h.loose
end Go.Proofs.YthpflelgbadkcaaGreatDoor
namespace Go.Proofs.YthpflelgbadkcaaGreatDoor
open Go.RowKit Pl
def QT (e:Ex):Prop:=Be e∧Bj e=0
def Cf (N D:Nat) (e:Ex):Prop:=AL e≤N∧BF e≤D∧BL QT e
theorem Cf.more {N D N' D':Nat} {e:Ex} (h:Cf N D e) (hN:N≤N') (hD:D≤D'):Cf N' D' e:=⟨SH h.1 hN,SH h.2.1 hD,h.2.2⟩
theorem Oa {n d:Int} (h:B2 n d=true):Bj (BG n d)=0:=by
 have h1:BN (BG n d)=true:=by simp[BN,BG,Ex.kind,Ex.fn,Ex.kids,Ex.num,Ex.den,Ex.window,Ex.offset,Ex.name,Ex.ms,Ex.k,Ex.bys,h];rfl
 have h2:Bo (BG n d)=true:=by simp[Bo,BG,Ex.kind,Ex.ms,Ex.bys,IA]
 have h3:Ai (BG n d)=true:=by simp[Ai,BG,Ex.kind,Ex.k]
 unfold Bj;rw[h1,h2,h3];rfl
theorem F8 {n d:Int} (h:B2 n d=true):Cf 1 1 (BG n d):=by
 refine⟨SD _,SD _,BA.2 ⟨⟨⟨?_,Hz n d⟩,Oa h⟩,fun k hk=>nomatch hk⟩⟩;have z0:Bc 0:=CR.1;have hv:=BT h;exact⟨z0,z0,z0,z0,z0,by unfold Bc;show _≤n∧n≤_;omega,by unfold Bc;show _≤d∧d≤_;omega⟩
theorem Oi {f:Int} (h:0≤f∧f≤3) (a b:Ex):Bj (BB f a b)=0:=by
 have h1:BN (BB f a b)=true:=by simp[BN,BB,Ex.kind,Ex.fn,Ex.kids,Ex.num,Ex.den,Ex.window,Ex.offset,Ex.name,Ex.ms,Ex.k,Ex.bys,h];rfl
 have h2:Bo (BB f a b)=true:=by simp[Bo,BB,Ex.kind,Ex.ms,Ex.bys,IA]
 have h3:Ai (BB f a b)=true:=by simp[Ai,BB,Ex.kind,Ex.k]
 unfold Bj;rw[h1,h2,h3];rfl
theorem JP:Li ⟨#[]⟩:=⟨fun i h=>absurd h (by show ¬i<0;omega),by show 0≤1000;omega⟩
theorem B7 {f:Int} (h:0≤f∧f≤3) {a b:Ex} {N1 D1 N2 D2:Nat} (ha:Cf N1 D1 a) (hb:Cf N2 D2 b):Cf (1+N1+N2) (1+max D1 D2) (BB f a b):=by
 refine⟨?_,?_,BA.2 ⟨⟨⟨?_,JP,(fun m hm=>nomatch hm),(fun m hm=>nomatch hm),Nat.zero_le _,Nat.zero_le _⟩,Oi h a b⟩,fun k hk=>?_⟩⟩
 ·show 1+(AL a+(AL b+0))≤_;have:=ha.1;have:=hb.1;omega
 ·show max (BF a) (max (BF b) 0)+1≤_;have:=ha.2.1;have:=hb.2.1;omega
 ·have z0:Bc 0:=CR.1;exact⟨by unfold Bc;show _≤(3:Int)∧(3:Int)≤_;omega,by unfold Bc;show _≤f∧f≤_;omega,z0,z0,z0,z0,z0⟩
 rcases List.mem_cons.1 hk with rfl|hk
 ·exact ha.2.2
 obtain rfl:=SJ.1 hk;exact hb.2.2
def Cw (g B:Nat) (v:Value) (l:List Int) (M N D i C:Nat) (w:World) (e:Ending) (w':World):Prop:=
 ∃(t:Ex) (cs:List Value) (i':Nat),e= .returned (.agg cs.toArray)∧Ax w' (CW 0 M w'.heap.size) t cs∧Cf N D t∧GS w' g B v l i'∧i'≤i+C∧AC (fun b=>b=g) w w'
theorem Js (w:World) (Q:Nat→Prop) (x y:Int):Ax w Q (BG x y) (AH x y):=Ax.mk_ (e:=BG x y) (CI.nil _ _ _) (CI.nil _ _ _) (EK.nil _ _)
end Go.Proofs.YthpflelgbadkcaaGreatDoor
