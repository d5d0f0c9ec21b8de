/- What the card of the law stands on: Query, GenH, Mat. -/
import Derived.Test.YtkclnhpofkaclaaGreatDoorRewriteFoldP01
import Derived.Test.YtkclnhpofkaclaaGreatDoorRewriteFoldP42
import Derived.Test.YtkclnhpofkaclaaGreatDoorRewriteFoldP26
set_option maxRecDepth 100000
set_option maxHeartbeats 12800000
set_option linter.unusedVariables false
set_option linter.unusedSimpArgs false
namespace Go.Proofs.YtkclnhpofkaclaaGreatDoor
open Go.RowKit Pl
def Ol (N D:Nat) (w:World) (e:Ending) (w':World):Prop:=∃(t:Ex) (cs:List Value),e= .returned (.agg cs.toArray)∧AV w' (C9 0 w.heap.size w'.heap.size) t cs∧Cd N D t∧A5 w w'
theorem Nl (w:World) (v:Value) (l:List Int) (hr:Rd w w.heap.size v (l.map vi)) (hl:∀x∈l,Ah x) (hll:l.length≤1000000000000000):
  Calls Tryz.prog 4 #[v] w (Ol 21 5 w):=by
 obtain⟨A,n,c,rfl,hn,hc⟩:=hr.form;have hbr:=Ux w 29 (AE 0 0).toArray;have hG:=(Uv w).alloc (.cells (AE 0 0).toArray 29);have hs:(w.alloc (.cells (AE 0 0).toArray 29)).heap.size=w.heap.size+1:=by simp
 have HR:=UX (UZ hr (UZ hl hll));clear hr hl hll hn hc;go_enter Tryz.func4,Tryz.ntmps4;go_upto_region 1 with fail;change Code.wp _ _ _ _ (w.alloc (.cells (AE 0 0).toArray 29));generalize w.alloc (.cells (AE 0 0).toArray 29)=w1 at*;have HS:=UX hs;clear hs;go_upto_region 2 with fail;have hbg:=Ux w1 38 #[.slice A n c,.int .i64 0];have hg2:=(Uv w1).alloc (.cells #[.slice A n c,.int .i64 0] 38);generalize w1.alloc (.cells #[.slice A n c,.int .i64 0] 38)=w2 at*;have HGS:=UX (show GS w2 w1.heap.size w.heap.size (.slice A n c) l 0 from⟨hbg,HR.out.1.grew (Ua _) (hG.trans hg2),by have:=HS.out;omega,HR.out.2⟩);have HZ:=UX (show w1.heap.size=w.heap.size+1∧w1.heap.size<w2.heap.size from⟨HS.out,hbg.lt⟩);have hb2:=hbr.grew hg2;have HG:=UX (hG.trans hg2);generalize w1.heap.size=z at*;have HEx:=UX (show Calls Tryz.prog 11 #[.pointer (some ⟨z,0,none⟩),.int .i64 3] w2 (EB z w.heap.size (.slice A n c) l w2.heap.size (nX 2) (dX 2) 0 (cX 2) w2)from MS 2 3 (by decide) (by decide) w2 z w.heap.size (.slice A n c) l 0 HGS.out (by decide));clear hbr hG hbg hg2;go_wp2_with(first|(go_at_call 11;(with_reducible refine HEx.out.mono ?_);rintro e4 w4 ⟨t,U,i',rfl,hU,hgd,hgs,hi',k4⟩;have hU1:=AP hU;have hUl:U.length=11:=(by obtain⟨a,b,c,h, -⟩:=hU.open_;rw[h];rfl);have HU:=UX hU;have HUl:=UX hUl;have HGd:=UX (UZ hgd k4);have hb4:=hb2.keep k4 (by have:=HZ.out;omega);clear hU hUl hgd hgs hi' k4)|(refine sN (.tmp 2) (.tmp 8) U hb4 rX ?_ (hl:=HUl.out) (h1:=hU1);intro w8 hb8 k8 d8)|fail);refine rO rX hb8 ?_ (hl:=HUl.out);have hz:=HZ.out;exact⟨t,U,rfl,AV.keep (S:=fun b=>b=w.heap.size) (fun b hb=>⟨hb.2,by have:=hb.1;omega,.inr (by have:=hb.1;omega),Ub hb.2 k8.size⟩) k8 _ _ HU.out,HGd.out.1,Uw (Uw HG.out HGd.out.2 fun b hb e=>by omega) k8 fun b hb e=>by omega⟩
structure Gn where
 v:Value
 l:List Int
 vn:Value
 names:List ByteArray
 most:Nat
def F7 (w:World) (g B:Nat) (n:Gn) (i:Nat):Prop:=AK w g 57 #[n.v,.int .i64 (i:Nat),n.vn,.int .i64 (n.most:Nat)]∧Rd w B n.v (n.l.map vi)∧B≤g∧(∀x∈n.l,Ah x)∧n.l.length≤1000000000000000∧Bs w B 1 n.vn (n.names.map fun s=>[Value.string s])
theorem F7.grew {w w':World} {g B:Nat} {n:Gn} {i:Nat} (h:F7 w g B n i) (hg:A5 w w'):F7 w' g B n i:=
 ⟨h.1.grew hg,h.2.1.grew (Ue h.2.2.1 (Nat.le_of_lt h.1.lt)) hg,h.2.2.1,h.2.2.2.1,h.2.2.2.2.1,h.2.2.2.2.2.keep (Ue h.2.2.1 (Nat.le_of_lt h.1.lt)) (Ua _) hg (fun _ _ h=>h)⟩
theorem F7.keep {w w':World} {g B:Nat} {n:Gn} {i:Nat} {S:Nat→Prop} (h:F7 w g B n i) (k:A4 S w w') (hS:∀b,b≤g→¬S b):F7 w' g B n i:=
 ⟨h.1.keep k (hS g (Ua _)),h.2.1.keep (Ue h.2.2.1 (Nat.le_of_lt h.1.lt)) k (fun b hb=>hS b (by have:=h.2.2.1;omega)),h.2.2.1,h.2.2.2.1,h.2.2.2.2.1,h.2.2.2.2.2.keep (Ue h.2.2.1 (Nat.le_of_lt h.1.lt)) (Ua _) k (fun b hb=>hS b (by have:=h.2.2.1;omega))⟩
def BW (g B:Nat) (n:Gn) (i m:Nat) (w:World) (e:Ending) (w':World):Prop:=∃r:Nat,r<m∧e= .returned (.int .i64 (r:Nat))∧F7 w' g B n (i+1)∧A4 (fun b=>b=g) w w'
theorem BR (w:World) (g B:Nat) (gn:Gn) (i m:Nat) (h:F7 w g B gn i) (hi:i≤100000) (hm:0<m) (hm2:m≤100000):
  Calls Tryz.prog 48 #[.pointer (some ⟨g,0,none⟩),.int .i64 (m:Nat)] w (BW g B gn i m w):=by
 obtain⟨v,l,vn,names,most⟩:=gn;obtain⟨hb,hr,hB,hl,hll,hnm⟩:=h;dsimp only at hb hr hl hll hnm;obtain⟨A,n,c,rfl,hn,hc⟩:=hr.form;have c0:w.cell? ⟨g,0,none⟩=some (.slice A n c):=hb.cell 0;have c1:w.cell? ⟨g,1,none⟩=some (.int .i64 (i:Nat)):=hb.cell 1;have f1:w.frozen? ⟨g,1,none⟩=false:=hb.frozen 1;have hb2:AK (w.setCell ⟨g,1,none⟩ (.int .i64 ((i:Int)+1))) g 57 #[.slice A n c,.int .i64 ((i:Int)+1),vn,.int .i64 (most:Nat)]:=hb.set_ 1 _;have k2:A4 (fun b=>b=g) w (w.setCell ⟨g,1,none⟩ (.int .i64 ((i:Int)+1))):=V0 (S:=fun b=>b=g) (p:=⟨g,1,none⟩) (Uz _ w) (.inl rfl) _;have hgl:=hb.lt;have hr2:=hr.keep (by omega) k2 (fun i hi e=>by omega);have hnm2:=hnm.keep (by omega) (Ua _) k2 (fun i hi e=>by omega);have HNM:=UX hnm2;have HB:=UX (UZ hb2 (UZ k2 hr2));have HL:=UX (UZ hl hll);have HBB:=UX hB;have HGL:=UX hgl;clear hb hr hB hl hll hn hc hb2 k2 hr2 hgl hnm hnm2;go_enter Tryz.func48,Tryz.ntmps48;go_upto_region 2 with fail;obtain⟨hb2,k2,hr2⟩:=HB.out;generalize w.setCell ⟨g,1,none⟩ (.int .i64 ((i:Int)+1))=w2 at*;have d0:w2.cell? ⟨g,0,none⟩=some (.slice A n c):=hb2.cell 0;have d1:w2.cell? ⟨g,1,none⟩=some (.int .i64 ((i:Int)+1)):=hb2.cell 1;have HP:=UX (fun w' (hg:A5 w2 w')=>Dg (.slice A n c) l i m w' ((hr2.grew (by have:=k2.size;have:=HBB.out;have:=HGL.out;omega) hg).more (by have:=k2.size;have:=hg.size;have:=HBB.out;have:=HGL.out;omega)) HL.out.1 HL.out.2 (by omega) hm (by omega));have HR:=UX (FC l i m hm);have HW:=UX (UZ hb2 (UZ k2 hr2));generalize EU l i m=r at*;have hwr:IntKind.i64.wrap ((i:Int)+1-1)=(i:Int):=by unfold IntKind.wrap;simp[IntKind.bits,IntKind.signed];omega
 have hwr2:((i:Int)+1-1)=(i:Int):=by omega
 clear hb2 k2 hr2 c0 c1 f1;go_quiet ((go_at_call 47;exact Calls.quiet_of_same (HP.out _ (V1 (Uv _) _))));go_wp2_with fail;go_ret;obtain⟨hb2,k2,hr2⟩:=HW.out;exact⟨r,HR.out,rfl,⟨by rw[show(((i+1:Nat)):Int)=(i:Int)+1 by omega];exact hb2.drewN _,hr2.keep (by have:=k2.size;have:=HBB.out;have:=HGL.out;omega) (V1 (Uv w2) _) (fun _ _ h=>h),HBB.out,HL.out.1,HL.out.2,HNM.out.keep (by have:=k2.size;have:=HBB.out;have:=HGL.out;omega) (Ua _) (V1 (Uv w2) _) (fun _ _ h=>h)⟩,k2.drewN _⟩
def IB:List ByteArray:=[⟨#[97]⟩,⟨#[97,98]⟩,⟨#[98]⟩,⟨#[106,111,98]⟩,⟨#[120,95,49]⟩,⟨#[122,111,110,101]⟩]
def Qg:List ByteArray:=[⟨#[97]⟩,⟨#[97,98]⟩,⟨#[98]⟩,⟨#[120,49]⟩,⟨#[126,33]⟩,⟨#[48]⟩]
def N8:List ByteArray:=[⟨#[97]⟩,⟨#[97,98]⟩,⟨#[98]⟩,⟨#[120,49]⟩,⟨#[126,33]⟩,⟨#[48]⟩,⟨#[]⟩,⟨#[120]⟩]
theorem JF:∀s∈IB,Fz s:=by
 intro s hs;simp only[IB,List.mem_cons,List.not_mem_nil,or_false]at hs;rcases hs with rfl|rfl|rfl|rfl|rfl|rfl<;>exact⟨by unfold Ib;decide,by decide⟩
theorem PX:∀s∈N8,Fz s:=by
 intro s hs;simp only[N8,List.mem_cons,List.not_mem_nil,or_false]at hs;rcases hs with rfl|rfl|rfl|rfl|rfl|rfl|rfl|rfl<;>exact⟨by unfold Ib;decide,by decide⟩
theorem Hi (w:World):Calls Tryz.prog 85 #[] w fun e' w'=>e'= .returned (.slice (some ⟨w.heap.size,0,none⟩) 6 6)∧AK w' w.heap.size 9 (IB.map Value.string).toArray∧A5 w w':=by
 have hb:=Ux w 9 ((IB.map Value.string).toArray);have hG:=(Uv w).alloc (.cells ((IB.map Value.string).toArray) 9);go_enter Tryz.func85,Tryz.ntmps85;go_wp2_with fail;go_ret;exact⟨rfl,hb,hG⟩
theorem KQ (w:World):Calls Tryz.prog 126 #[] w fun e' w'=>e'= .returned (.slice (some ⟨w.heap.size,0,none⟩) 6 6)∧AK w' w.heap.size 9 (Qg.map Value.string).toArray∧A5 w w':=by
 have hb:=Ux w 9 ((Qg.map Value.string).toArray);have hG:=(Uv w).alloc (.cells ((Qg.map Value.string).toArray) 9);go_enter Tryz.func126,Tryz.ntmps126;go_wp2_with fail;go_ret;exact⟨rfl,hb,hG⟩
theorem AX.ofBox {w:World} {g base n:Nat} {e:TypeId} {sz:Nat} {rows:List (List Value)} (h:AK w g e rows.flatten.toArray) (hev:E4 sz rows) (hn:rows.length=n) (hb:base≤g) (hm:n≤maxLen):AX w base e sz (.slice (some ⟨g,0,none⟩) n n) rows:=by
 subst hn;have hl:=BL hev;exact⟨⟨hl,.inr ⟨g,rows.length,rows.flatten.toArray,rfl,hb,h,Ua _,hm,by simpa using hl,by rw[←hl];exact List.take_of_length_le (Ua _)⟩⟩,hev⟩
def Oq:List ByteArray:=[⟨#[]⟩,⟨#[120]⟩]
theorem Rf (w:World):Bs (w.alloc (.cells #[.string ⟨#[]⟩,.string ⟨#[120]⟩] 9)) (w.alloc (.cells #[.string ⟨#[]⟩,.string ⟨#[120]⟩] 9)).heap.size 1 (.slice (some ⟨w.heap.size,0,none⟩) 2 2) (Oq.map fun s=>[Value.string s]):=
 (AX.ofBox (base:=0) (rows:=Oq.map fun s=>[Value.string s]) (sz:=1) (n:=2) (show AK (w.alloc (.cells #[.string ⟨#[]⟩,.string ⟨#[120]⟩] 9)) w.heap.size 9 ((Oq.map fun s=>[Value.string s]).flatten.toArray)from Ux w 9 _) (EL _) rfl (Nat.zero_le _) (by decide)).rd
theorem MD {P:Program} {t e:TypeId} {sz bytes:Nat} {z:Value} {w:World} {base:Nat} {v sv:Value} {rows news:List (List Value)} {ops:Array Oper} {o:Oper} {a:Act} {K:Act→World→Prop} {Q:Exit→Act→World→Prop} {E:Prop} (T:Kg P t e sz bytes z) (hgd:o.guard=none) (s x:Operand)
  (ho:o.op= .call { callee:= .builtin .append,args:=#[s,x],argTypes:=#[t,t] })
  (hs:a.eval s=v) (hown:AX w base e sz v rows) (hx:a.eval x=sv) {B:Nat} (hr:Bs w B sz sv news) (hev:E4 sz news) (h1:∀r∈news,∀u∈r,u.oneCell'=true)
  (hn:rows.length+news.length≤1099511627) (hbase:base≤w.heap.size)
  (h:∀v' w',AX w' base e sz v' (rows++news)→A4 (fun i=>v.ownBlock=some i) w w'→K (a.put o.dst v') w'):if Region.wanted o (yielded ops a.tmps)=true then Oper.wp P o a w K Q else E:=by
 have hw:Region.wanted o (yielded ops a.tmps)=true:=by simp[Region.wanted,hgd]
 rw[Uo hw];obtain⟨v',w',hrun,h2,h3,h4⟩:=EK (P:=P) T o.type hown hr hev h1 hn hbase;unfold Oper.wp execOp;simp only[ho,resolve,invoke,builtin,Sem.run_bind,Sem.run_pure,Result.andThen_ok,List.map_toArray,List.map_cons,List.map_nil,hs,hx,hrun];exact h v' w' h2 h3
theorem Qi (w:World) (m:Mt):Bs (w.alloc (.cells (AL m).toArray 59)) (w.alloc (.cells (AL m).toArray 59)).heap.size 3 (.slice (some ⟨w.heap.size,0,none⟩) 1 1) ([m].map AL):=
 (AX.ofBox (base:=0) (rows:=[m].map AL) (sz:=3) (n:=1) (show AK (w.alloc (.cells (AL m).toArray 59)) w.heap.size 59 (([m].map AL).flatten.toArray)from by
  have h:=Ux w 59 (AL m).toArray;rwa[show(([m].map AL).flatten)=AL m from by simp]) (KW _) rfl (Nat.zero_le _) (by decide)).rd
theorem Tt {w w':World} {M:Nat} {e:TypeId} {sz:Nat} {v:Value} {rows:List (List Value)} {o:Obj} (h:AX w M e sz v rows) (k:A4 (fun i=>v.ownBlock=some i) (w.drew.alloc o) w'):A4 (fun b=>M≤b) w w':=
 Uw (A4.alloc (Uy (Uz _ _)) o) k fun i hi e=>(h.lt i e).1
theorem P7 {w:World} {B:Nat} {A:Option Addr} {n c:Nat} {ls:List ByteArray} (h:Bs w B 1 (.slice A n c) (ls.map fun s=>[Value.string s])) {r:Nat} {s:ByteArray} (hr:ls[r]? =some s):∃b o,A=some ⟨b,o,none⟩∧w.cell? ⟨b,o+r,none⟩=some (.string s):=by
 obtain⟨b,o,hA,hrg⟩:=h.at_ (j:=r) (cs:=[Value.string s]) (by rw[List.getElem?_map,hr];rfl);refine⟨b,o,hA,?_⟩;have:=hrg 0 _ rfl;rw[Nat.mul_one]at this;exact this
def LU (m:Mt):Prop:=Fz m.1∧Fz m.2.2
def R2 (w:World) (e:Ending) (w':World):Prop:=∃(v:Value) (ms:List Mt),e= .returned v∧BE w' (C9 0 w.heap.size w'.heap.size) 3 v (ms.map AL)∧ms.length≤3∧(∀m∈ms,LU m)∧A5 w w'
theorem Ij (w:World) (v:Value) (l:List Int) (hr:Rd w w.heap.size v (l.map vi)) (hl:∀x∈l,Ah x) (hll:l.length≤1000000):
  Calls Tryz.prog 84 #[v] w (R2 w):=by
 obtain⟨A,n,c,rfl,hn,hc⟩:=hr.form;have HR:=UX (fun w' (g:A5 w w')=>hr.grew (Ua _) g);have HL:=UX (UZ hl hll);clear hr hl hll hn hc;go_enter Tryz.func84,Tryz.ntmps84;go_upto_region 2 with(first|(go_at_call 85;(with_reducible refine(Hi _).mono ?_);rintro e1 w1 ⟨rfl,hbn,g1⟩;have HBN:=UX hbn;clear hbn));go_upto_region 3 with(first|(go_at_call 126;(with_reducible refine(KQ _).mono ?_);rintro e2 w2 ⟨rfl,hbv,g2⟩;have hmv:=AX.ofBox (base:=w1.heap.size) (rows:=Qg.map fun s=>[Value.string s]) (sz:=1) (n:=6) hbv (EL _) rfl (Ua _) (by decide);have HMV:=UX hmv;clear hbv hmv)|(at_builtin;refine FX T6 rfl (.tmp 8) (.tmp 9) rfl rfl (HMV.out.alloc _) rfl (Rf w2) (EL Oq) (It Oq) (by decide) (by have:=g2.size;simp;omega) ?_;intro v3 w3 hM3 k3;have HM3:=UX hM3;have HK3:=UX k3;clear hM3 k3));have HG3:=UX (show A5 w w3 from Uw ((g1.trans g2).alloc _) HK3.out fun i hi e=>by have h1:=(HMV.out.lt i e).1;have h2:=g1.size;omega);have hv3:Bs w3 w3.heap.size 1 v3 (N8.map fun s=>[Value.string s]):=HM3.out.rd;obtain⟨A3,n3,c3,rfl,hn3, -⟩:=HM3.out.slice;have HN3:=UX (show n3=8 from hn3);have hbn3:=HBN.out.grew g2;have HV:=UX (UZ hv3 ((hbn3.alloc (.cells #[.string ⟨#[]⟩,.string ⟨#[120]⟩] 9)).keep HK3.out (fun e=>by have h1:=(HMV.out.lt _ e).1;have h2:=HBN.out.lt;omega)));have HM:=UX (show w.heap.size<w3.heap.size from Ub HBN.out.lt (by have:=g2.size;have:=HK3.out.size;simp at this;omega));clear hv3 hn3 hbn3 g1 g2 HMV HBN HK3 HM3;obtain⟨m4,hm4⟩:∃m,EU l 0 4=m:=⟨_,rfl⟩;have hm43:m4<4:=by rw[←hm4];exact FC l 0 4 (by decide)
 have HP0:=UX (show ∀w',A5 w w'→Calls Tryz.prog 47 #[.slice A n c,.int .i64 0,.int .i64 4] w' fun e w''=>e= .returned (.int .i64 (m4:Nat))∧w''=w' from fun w' g=>by have:=Dg (.slice A n c) l 0 4 w' ((HR.out w' g).more g.size) HL.out.1 (by have:=HL.out.2;omega) (by decide) (by decide) (by decide);rw[hm4]at this;exact this);have HSZ:=UX (show w3.heap.size≤w3.heap.size from Ua _);generalize hMM:w3.heap.size=M at HV HM;have HSZ:=UX (show w3.heap.size=M from hMM);clear hMM;clear hm4;go_wp2_with fail;go_loopw [5,6] (fun s i wr=>∃(j:Nat) (ms:List Mt),j≤m4∧i= .int .i64 (j:Nat)∧AX wr M 59 3 s (ms.map AL)∧ms.length=j∧(∀m∈ms,LU m)∧A4 (fun b=>M≤b) w3 wr) (fun _ i _=>m4-(intOf i).toNat)
 case atStart=>exact⟨0,[],by omega,rfl,AX.nil _ _ _ _,rfl,(fun m hm=>nomatch hm),Uz _ _⟩
 case round=>
  obtain⟨j,ms,hj,rfl,hM,hml,hgm,hk⟩:=hrel;obtain⟨As,ns,ks,rfl,hns, -⟩:=hM.slice;have hgw:A5 w wr:=Uw HG3.out hk fun i hi (e:M≤i)=>by have:=HM.out;omega
  have HGW:=UX hgw;have HMR:=UX hM;have HGM:=UX (UZ hml hgm);have HKR:=UX hk;clear hM hml hgm hk hns hgw;by_cases hlt:j<m4
  ·obtain⟨p1,hp1⟩:∃p,EU l (3*j+1) 6=p:=⟨_,rfl⟩;obtain⟨p2,hp2⟩:∃p,EU l (3*j+2) 3=p:=⟨_,rfl⟩;obtain⟨p3,hp3⟩:∃p,EU l (3*j+3) 8=p:=⟨_,rfl⟩;have hq1:p1<6:=by rw[←hp1];exact FC _ _ _ (by decide)
   have hq3:p3<8:=by rw[←hp3];exact FC _ _ _ (by decide)
   have HP1:=UX (show ∀w',A5 w w'→Calls Tryz.prog 47 #[.slice A n c,.int .i64 (3*(j:Int)+1),.int .i64 6] w' fun e w''=>e= .returned (.int .i64 (p1:Nat))∧w''=w' from fun w' g=>by have:=Dg (.slice A n c) l (3*j+1) 6 w' ((HR.out w' g).more g.size) HL.out.1 (by have:=HL.out.2;omega) (by omega) (by decide) (by decide);rw[hp1,show(((3*j+1:Nat)):Int)=3*(j:Int)+1 by omega]at this;exact this);have HP2:=UX (show ∀w',A5 w w'→Calls Tryz.prog 47 #[.slice A n c,.int .i64 (3*(j:Int)+2),.int .i64 3] w' fun e w''=>e= .returned (.int .i64 (p2:Nat))∧w''=w' from fun w' g=>by have:=Dg (.slice A n c) l (3*j+2) 3 w' ((HR.out w' g).more g.size) HL.out.1 (by have:=HL.out.2;omega) (by omega) (by decide) (by decide);rw[hp2,show(((3*j+2:Nat)):Int)=3*(j:Int)+2 by omega]at this;exact this);have HP3:=UX (show ∀w',A5 w w'→Calls Tryz.prog 47 #[.slice A n c,.int .i64 (3*(j:Int)+3),.int .i64 8] w' fun e w''=>e= .returned (.int .i64 (p3:Nat))∧w''=w' from fun w' g=>by have:=Dg (.slice A n c) l (3*j+3) 8 w' ((HR.out w' g).more g.size) HL.out.1 (by have:=HL.out.2;omega) (by omega) (by decide) (by decide);rw[hp3,show(((3*j+3:Nat)):Int)=3*(j:Int)+3 by omega]at this;exact this);obtain⟨nm,hnm⟩:∃s,IB[p1]? =some s:=⟨_,Uc (by show p1<6;exact hq1)⟩;obtain⟨vl,hvl⟩:∃s,N8[p3]? =some s:=⟨_,Uc (by show p3<8;exact hq3)⟩;obtain⟨b3,o3,hA3,hc3⟩:=P7 HV.out.1 hvl;subst hA3;have hcn:w3.cell? ⟨w.heap.size,p1,none⟩=some (.string nm):=(HV.out.2.cell p1).trans (by rw[List.getElem?_toArray,List.getElem?_map,hnm];rfl);have hb3:b3<M:=by
    obtain⟨A',c',hv,hc,hx⟩:=HV.out.1;injection hv with e1 e2 e3;subst e1;obtain⟨b,o,e,hb, -⟩:=hx (by decide);injection e with e;injection e with e4 e5;omega
   have HKS:=UX (show ∀w',A4 (fun b=>M≤b) wr w'→A4 (fun b=>M≤b) wr w'∧w'.cell? ⟨w.heap.size,p1,none⟩=some (.string nm)∧w'.cell? ⟨b3,o3+p3,none⟩=some (.string vl)from fun w' k=>by
    have k3:=HKR.out.trans k;have h0:=HSZ.out;have h9:=HM.out;have n1:¬(M≤w.heap.size):=by omega
    have n2:¬(M≤b3):=by omega
    have n3:w.heap.size<w3.heap.size:=by omega
    have n4:b3<w3.heap.size:=by omega
    exact⟨k,(World.cell?_of_block (a:=⟨w.heap.size,p1,none⟩) (k3.block _ n3 n1)).trans hcn,(World.cell?_of_block (a:=⟨b3,o3+p3,none⟩) (k3.block _ n4 n2)).trans hc3⟩)
   have HGK:=UX (show ∀w',A4 (fun b=>M≤b) wr w'∧(w'.cell? ⟨w.heap.size,p1,none⟩=some (.string nm)∧w'.cell? ⟨b3,o3+p3,none⟩=some (.string vl))→A5 w w' from fun w' k=>Uw HGW.out k.1 fun i hi (e:M≤i)=>by have:=HM.out;omega);have i1:(0:Int)≤(p1:Nat):=by omega
   have i2:((p1:Nat):Int)<6:=by omega
   have i3:(0:Int)≤(p3:Nat):=by omega
   have i4:((p3:Nat):Int)<8:=by omega
   have hw0:IntKind.i64.wrap (3*(j:Int))=3*(j:Int):=IntWalk.i64_in _ (by omega);have hw1:IntKind.i64.wrap (3*(j:Int)+1)=3*(j:Int)+1:=IntWalk.i64_in _ (by omega);have hw2:IntKind.i64.wrap (3*(j:Int)+2)=3*(j:Int)+2:=IntWalk.i64_in _ (by omega);have hw3:IntKind.i64.wrap (3*(j:Int)+3)=3*(j:Int)+3:=IntWalk.i64_in _ (by omega);have HN3':=HN3.out;subst HN3';have HTX:=UX (show LU (nm,(p2:Int),vl)from⟨JF _ (Uk hnm),PX _ (Uk hvl)⟩);clear hcn hc3 hnm hvl hp1 hp2 hp3;go_upto_region 7 with(first|(go_at_call 47;(with_reducible refine(HP0.out _ HGW.out).mono ?_);rintro e0 wr ⟨rfl,rfl⟩));go_region_held3 (fun w'=>A4 (fun b=>M≤b) wr w'∧w'.cell? ⟨w.heap.size,p1,none⟩=some (.string nm)∧w'.cell? ⟨b3,o3+p3,none⟩=some (.string vl)) (exact HKS.out _ (by first|assumption|exact And.left (by assumption)|exact A4.alloc (And.left (by assumption)) _|exact Uy (by assumption)|exact Uy (Uz _ _)))
    (first|(go_at_call 47;(with_reducible refine(HP1.out _ (HGK.out _ (by assumption))).mono ?_);rintro e1 wp1 ⟨rfl,rfl⟩)|(go_at_call 47;(with_reducible refine(HP2.out _ (HGK.out _ (by assumption))).mono ?_);rintro e2 wp2 ⟨rfl,rfl⟩)|(go_at_call 47;(with_reducible refine(HP3.out _ (HGK.out _ (by assumption))).mono ?_);rintro e3 wp3 ⟨rfl,rfl⟩)|(refine MD T9 rfl (.tmp 17) (.tmp 40) rfl rfl (AX.grew HMR.out (by first|exact A4.alloc (Uy (Uv _)) _|exact A4.alloc (Uv _) _)) rfl (Qi _ (nm,(p2:Int),vl)) (KW [(nm,(p2:Int),vl)]) (N5 [(nm,(p2:Int),vl)]) (by have:=HGM.out.1;simp;omega) (by have:=HKR.out.size;have:=HSZ.out;simp;omega) ?_;intro v5 w5 hM5 k5;have kk5:A4 (fun b=>M≤b) wr w5:=Tt HMR.out k5))
   have HME:=UX (show AX w5 M 59 3 v5 ((ms++[(nm,(p2:Int),vl)]).map AL) by rw[List.map_append];exact hM5);have HK5:=UX (HKR.out.trans kk5);clear hM5 k5 kk5 hw0 hw1 hw2 hw3;go_wp2_with fail;go_roundw
   case rel=>exact⟨j+1,ms++[(nm,(p2:Int),vl)],by omega,by go_num,HME.out,by have:=HGM.out.1;simp;omega,fun m hm=>by
    rcases List.mem_append.1 hm with h|h
    ·exact HGM.out.2 m h
    rw[Ug.1 h];exact HTX.out,HK5.out⟩
   case measure=>simp[intOf];omega
  obtain rfl:j=m4:=by omega
  go_wp2_with(first|(go_at_call 47;(with_reducible refine(HP0.out _ HGW.out).mono ?_);rintro e0 wr ⟨rfl,rfl⟩));go_ret;exact⟨_,ms,rfl,HMR.out.own.keep (S:=fun _=>False) (fun b hb=>⟨(HMR.out.lt b hb).2,id,.inr (by have:=(HMR.out.lt b hb).1;have:=HM.out;omega),(HMR.out.lt b hb).2⟩) (Uv _),by have:=HGM.out.1;omega,HGM.out.2,HGW.out⟩
end Go.Proofs.YtkclnhpofkaclaaGreatDoor
