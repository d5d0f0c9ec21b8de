/- What the card of the law stands on: GenU, GenV. -/
import Derived.Test.YtkclnhpofkaclaaGreatDoorRewriteFoldP15
import Derived.Test.YtkclnhpofkaclaaGreatDoorRewriteFoldP01
import Derived.Test.YtkclnhpofkaclaaGreatDoorRewriteFoldP04
import Derived.Test.YtkclnhpofkaclaaGreatDoorRewriteFoldP44
set_option maxRecDepth 100000
set_option maxHeartbeats 12800000
set_option linter.unusedVariables false
set_option linter.unusedSimpArgs false
namespace Go.Proofs.YtkclnhpofkaclaaGreatDoor
open Go.RowKit Pl
def Ht (f k:Int) (bys:List ByteArray) (kids:List Ex):Ex:= .mk 2 f 0 0 k 0 0 ⟨#[]⟩ [] bys kids
theorem Rc {f k:Nat} (hf:f<5) (hk:k≤100) {a:Ex} {N D:Nat} (ha:Kf N D a) {bys:List ByteArray} (hb:∀s∈bys,Fz s) (hl:bys.length≤6):Kf (1+N) (1+D) (Ht (f:Nat) (k:Nat) bys [a]):=by
 have z0:Ah 0:=Bt.1;refine⟨?_,?_,Aa.2 ⟨⟨⟨by unfold Ah;show _≤(2:Int)∧(2:Int)≤_;omega,by unfold Ah;show _≤((f:Nat):Int)∧((f:Nat):Int)≤_;omega,z0,z0,by unfold Ah;show _≤((k:Nat):Int)∧((k:Nat):Int)≤_;omega,z0,z0⟩,CV,(fun m hm=>nomatch hm),hb,Nat.zero_le _,by show bys.length≤1000;omega⟩,fun q hq=>?_⟩⟩
 ·show 1+(AD a+0)≤_;have:=ha.1;omega
 ·show max (Ae a) 0+1≤_;have:=ha.2.1;omega
 obtain rfl:=Ug.1 hq;exact ha.2.2
theorem Ov {P:Program} {t e:TypeId} {sz bytes:Nat} {z:Value} {w:World} {base:Nat} {v sv:Value} {rows news:List (List Value)} {o:Oper} {a:Act} {K:Act→World→Prop} {Q:Exit→Act→World→Prop} (T:Kg P t e sz bytes z) (s x:Operand)
  (ho:o.op= .call { callee:= .builtin .append,args:=#[s,x],argTypes:=#[t,t] })
  (hs:a.eval s=v) (hown:AX w base e sz v rows) (hx:a.eval x=sv) {B:Nat} (hr:Bs w B sz sv news) (hev:E4 sz news) (h1:∀r∈news,∀u∈r,u.oneCell'=true)
  (hn:rows.length+news.length≤1099511627) (hbase:base≤w.heap.size)
  (h:∀v' w',AX w' base e sz v' (rows++news)→A4 (fun i=>v.ownBlock=some i) w w'→K (a.put o.dst v') w'):Oper.wp P o a w K Q:=by
 obtain⟨v',w',hrun,h2,h3,h4⟩:=EK (P:=P) T o.type hown hr hev h1 hn hbase;unfold Oper.wp execOp;simp only[ho,resolve,invoke,builtin,Sem.run_bind,Sem.run_pure,Result.andThen_ok,List.map_toArray,List.map_cons,List.map_nil,hs,hx,hrun];exact h v' w' h2 h3
theorem Qv (w:World) (s:ByteArray):Bs (w.alloc (.cells #[.string s] 9)) (w.alloc (.cells #[.string s] 9)).heap.size 1 (.slice (some ⟨w.heap.size,0,none⟩) 1 1) ([s].map fun s=>[Value.string s]):=
 (AX.ofBox (base:=0) (rows:=[s].map fun s=>[Value.string s]) (sz:=1) (n:=1) (show AK (w.alloc (.cells #[.string s] 9)) w.heap.size 9 (([s].map fun s=>[Value.string s]).flatten.toArray)from Ux w 9 _) (EL _) rfl (Nat.zero_le _) (by decide)).rd
theorem QJ (w:World) (g B:Nat) (gn:Gn) (i N D C:Nat) (d:Int) (h:F7 w g B gn i) (hi:i+3+C≤50000) (hd: -100≤d∧d≤100)
  (HI:∀(w':World) (i':Nat),F7 w' g B gn i'→i'≤i+3→Calls Tryz.prog 28 #[.pointer (some ⟨g,0,none⟩),.int .i64 (d-1)] w' (Dz g B gn w'.heap.size N D i' C w')):
  Calls Tryz.prog 50 #[.pointer (some ⟨g,0,none⟩),.int .i64 d] w (Dz g B gn w.heap.size (1+N) (1+D) i (3+C) w):=by
 have hgl:=h.1.lt;have hBg:=h.2.2.1;have hbr:=Ux w 29 (AE 0 0).toArray;have hG:=(Uv w).alloc (.cells (AE 0 0).toArray 29);have hs:(w.alloc (.cells (AE 0 0).toArray 29)).heap.size=w.heap.size+1:=by simp
 have HGS:=UX (h.grew hG);have HGL:=UX (UZ hgl hBg);have HG0:=UX hG;have HII:=UX HI;clear h hgl hBg hG HI;go_enter Tryz.func50,Tryz.ntmps50;go_upto_region 1 with fail;change Code.wp _ _ _ _ (w.alloc (.cells (AE 0 0).toArray 29));generalize w.alloc (.cells (AE 0 0).toArray 29)=w1 at*;have HS:=UX hs;have HBR:=UX hbr;clear hs hbr;have HN5:=UX (fun(w':World) (i':Nat) (hs:F7 w' g B gn i') (hi':i'≤60000)=>show Calls Tryz.prog 48 #[.pointer (some ⟨g,0,none⟩),.int .i64 5] w' (BW g B gn i' (5) w')from by have h:=BR w' g B gn i' (5) hs (by omega) (by omega) (by omega);rwa[show(((5):Nat):Int)=5 by omega]at h);have HN3:=UX (fun(w':World) (i':Nat) (hs:F7 w' g B gn i') (hi':i'≤60000)=>show Calls Tryz.prog 48 #[.pointer (some ⟨g,0,none⟩),.int .i64 3] w' (BW g B gn i' (3) w')from by have h:=BR w' g B gn i' (3) hs (by omega) (by omega) (by omega);rwa[show(((3):Nat):Int)=3 by omega]at h);have HN64:=UX (fun(w':World) (i':Nat) (hs:F7 w' g B gn i') (hi':i'≤60000)=>show Calls Tryz.prog 48 #[.pointer (some ⟨g,0,none⟩),.int .i64 64] w' (BW g B gn i' (64) w')from by have h:=BR w' g B gn i' (64) hs (by omega) (by omega) (by omega);rwa[show(((64):Nat):Int)=64 by omega]at h);go_upto_region 2 with(first|(go_at_call 48;(with_reducible refine(HN5.out _ _ HGS.out (by omega)).mono ?_);rintro e2 w2 ⟨f,hf,rfl,hgs2,k2⟩;have HG2:=UX hgs2;have HK2:=UX k2;clear hgs2 k2)|(refine sN (.tmp 5) (.tmp 11) (A8 (Ht (f:Nat) 0 [] []) (.slice none 0 0) (.slice none 0 0) (.slice none 0 0)) (Ux w2 29 _) rX ?_ (us:=(AE 0 0));intro w4 hb4 k4 d4;have g4:A5 w2 w4:=Uw ((Uv w2).alloc _) k4 (fun i hi e=>by omega))|fail);have HG4:=UX (HG2.out.grew g4);have HK4:=UX (show A4 (fun b=>b=g∨w1.heap.size≤b) w1 w4 from Uw (A4.mono HK2.out fun b hb e=> .inl e) g4 fun b hb e=>e.elim);have HZ:=UX (show g<w1.heap.size∧w1.heap.size≤w2.heap.size from⟨by have:=HGL.out;have:=HS.out;omega,HK2.out.size⟩);clear HG2 HK2 k4 d4 g4;generalize w2.heap.size=z at*;have hb4:AK w4 z 29 (A8 (Ht (f:Nat) 0 [] []) (.slice none 0 0) (.slice none 0 0) (.slice none 0 0)).toArray:=hb4;have cc1:w4.cell? ⟨z,1,none⟩=some (.int .i64 (f:Nat)):=hb4.cell 1;have ff1:w4.frozen? ⟨z,1,none⟩=false:=hb4.frozen 1;go_upto_if 14 with fail;go_cut [] (fun wx=>∃i' k,i'≤i+2∧k≤100∧AK wx z 29 (A8 (Ht (f:Nat) (k:Nat) [] []) (.slice none 0 0) (.slice none 0 0) (.slice none 0 0)).toArray∧F7 wx g B gn i'∧A4 (fun b=>b=g∨w1.heap.size≤b) w1 wx)
 case first=>
  by_cases h4:f=4
  ·have t4:((f:Int)==4)=true:=by rw[Ud];omega
   clear h4;go_wp2_with(first|(go_at_call 48;(with_reducible refine(HN3.out _ _ HG4.out (by omega)).mono ?_);rintro e5 w5 ⟨r5,hr5,rfl,hgs5,kn5⟩;have hb5:=hb4.keep kn5 (by have:=HZ.out;omega);have HG5:=UX hgs5;have HK5:=UX (Uw HK4.out kn5 (fun b hb e=> .inl e));clear hgs5 kn5;have cc4:w5.cell? ⟨z,4,none⟩=some (.int .i64 0):=hb5.cell 4;have ff4:w5.frozen? ⟨z,4,none⟩=false:=hb5.frozen 4));have hb6:AK (w5.setCell ⟨z,4,none⟩ (.int .i64 (1+(r5:Int)))) z 29 (A8 (Ht (f:Nat) (1+(r5:Int)) [] []) (.slice none 0 0) (.slice none 0 0) (.slice none 0 0)).toArray:=hb5.set_ 4 (.int .i64 (1+(r5:Int)));have HG6:=UX (HG5.out.keep (S:=fun b=>b=z) (V0 (S:=fun b=>b=z) (p:=⟨z,4,none⟩) (Uz _ w5) (.inl rfl) (.int .i64 (1+(r5:Int)))) (fun b hb e=>by have:=HZ.out;have:b=z:=e;omega));have HK6:=UX (V0 (S:=fun b=>b=g∨w1.heap.size≤b) (p:=⟨z,4,none⟩) HK5.out (.inl (.inr HZ.out.2)) (.int .i64 (1+(r5:Int))));generalize w5.setCell ⟨z,4,none⟩ (.int .i64 (1+(r5:Int)))=w6 at*;go_meet;exact⟨i+1+1,1+r5,by omega,by omega,by rw[show(((1+r5:Nat)):Int)=1+(r5:Int) by omega];exact hb6,HG6.out,HK6.out⟩
  have t4:((f:Int)==4)=false:=by rw[UY];omega
  clear h4;go_wp2_with fail;go_meet;exact⟨i+1,0,by omega,by omega,hb4,HG4.out,HK4.out⟩
 case rest=>
  clear cc1 ff1 hb4 HG4 HK4;obtain⟨i2,k,hi2,hk,hb4,hgs4,hk4⟩:=hcut;have HG4:=UX hgs4;have HK4:=UX hk4;clear hgs4 hk4;generalize wc=w4 at*;go_upto_region 6 with(first|(go_at_call 85;(with_reducible refine(Hi _).mono ?_);rintro e5 w5 ⟨rfl,hbn,g5⟩;have hb5:=hb4.grew g5;have HG5:=UX (HG4.out.grew g5);have HK5:=UX (show A4 (fun b=>b=g∨w1.heap.size≤b) w1 w5 from Uw HK4.out g5 fun b hb e=>e.elim);have HBN:=UX hbn;clear hbn g5)|(go_at_call 48;(with_reducible refine(HN64.out _ _ HG5.out (by omega)).mono ?_);rintro e6 w6 ⟨r6,hr6,rfl,hgs6,kn6⟩;have hb6:=hb5.keep kn6 (by have:=HZ.out;omega);have HG6:=UX hgs6;have HK6:=UX (Uw HK5.out kn6 (fun b hb e=> .inl e));have HKN:=UX kn6;clear hgs6 kn6));have hzl:=hb4.lt;have hn6:=HBN.out.lt;have hsz6:=hb6.lt;have hbn6:=HBN.out.keep (show A4 (fun b=>b=g) w5 w6 from HKN.out) (by have:=HZ.out;omega);obtain⟨nb,hnb⟩:∃nb,w4.heap.size=nb:=⟨_,rfl⟩;rw[hnb]at hbn6 hn6 hzl;have HNB:=UX (UZ hnb hbn6);obtain⟨M0,hM0⟩:∃M0,w6.heap.size=M0:=⟨_,rfl⟩;have HM0:=UX (show w6.heap.size=M0∧z<nb∧nb<M0 from⟨hM0,hzl,by have:=hbn6.lt;omega⟩);have HB6:=UX hb6;have hnb2:w4.heap.size=nb:=hnb;clear hn6 hsz6 hbn6 hM0 hzl hb4 hb5 HG4 HK4 HG5 HK5 HBN HKN hb6;rw[hnb2];clear hnb hnb2;go_wp2_with fail;go_loopw [7,8] (fun s7 s8 wr=>∃(j x:Nat) (bys:List ByteArray) (vb:Value),j≤6∧s8= .int .i64 (j:Nat)∧s7= .int .i64 (x:Nat)∧x≤64∧AX wr M0 9 1 vb (bys.map fun s=>[Value.string s])∧bys.length≤j∧(∀s∈bys,Fz s)∧AK wr z 29 (A8 (Ht (f:Nat) (k:Nat) bys []) (.slice none 0 0) (vb) (.slice none 0 0)).toArray∧F7 wr g B gn (i2+1)∧A4 (fun b=>b=z∨M0≤b) w6 wr) (fun _ s8 _=>6-(intOf s8).toNat)
  case atStart=>exact⟨0,r6,[],.slice none 0 0,by omega,rfl,rfl,by omega,AX.nil _ _ _ _,Ua _,(fun s hs=>nomatch hs),HB6.out,HG6.out,Uz _ _⟩
  case round=>
   obtain⟨j,x,bys,vb,hj,rfl,rfl,hx,hM,hbl,hbt,hbz,hgz,hkz⟩:=hrel;obtain⟨Ab,nb',kb,rfl, -, -⟩:=hM.slice;have HMr:=UX hM;have HBr:=UX hbz;have HGr:=UX hgz;have HKr:=UX hkz;have HT:=UX (UZ hbl hbt);have HZr:=UX (show M0≤wr.heap.size from by have:=hkz.size;have:=HM0.out;omega);have hbnr:=HNB.out.2.keep hkz (by have:=HM0.out;omega);have HNr:=UX hbnr;clear hM hbl hbt hbz hgz hkz hbnr;have e4:(x:Int).tmod 4=((x%4:Nat):Int):=by rw[Int.tmod_eq_emod_of_nonneg (by omega)];rfl
   have e2:(x:Int).tdiv 2=((x/2:Nat):Int):=rfl;by_cases hlt:j<6
   ·obtain⟨q4,hq4⟩:∃q,x%4=q:=⟨_,rfl⟩;obtain⟨q2,hq2⟩:∃q,x/2=q:=⟨_,rfl⟩;rw[hq4]at e4;rw[hq2]at e2;have hq42:q4<4∧q2≤64:=by omega
    clear hq4 hq2;by_cases h1:q4=1
    ·have t1:((q4:Int)==1)=true:=by rw[Ud];omega
     clear h1;obtain⟨nm,hnm⟩:∃s,IB[j]? =some s:=⟨_,Uc (by show j<6;exact hlt)⟩;have HNM:=UX (JF _ (Uk hnm));have HA:=UX (show ∀w',A5 wr w'→w'.cell? ⟨z,9,none⟩=some (.slice Ab nb' kb)∧w'.cell? ⟨nb,j,none⟩=some (.string nm)from fun w' k=>⟨(HBr.out.grew k).cell 9,((HNr.out.grew k).cell j).trans (by rw[List.getElem?_toArray,List.getElem?_map,hnm];rfl)⟩);clear hnm;go_upto_region 10 with fail;refine lR 7 (fun w'=>w'.cell? ⟨z,9,none⟩=some (.slice Ab nb' kb)∧w'.cell? ⟨nb,j,none⟩=some (.string nm)) (HA.out _ (Uy (Uv wr))) fun hcl hkn=>?_
     refine tP (i:=0) hcl hkn fun hcl hkn=>?_
     try simp only[nf]
     refine' CB [] 7 _ (i:=1) (v:=_) rfl (by kernel_rfl) (by kernel_rfl) (by kernel_rfl) hcl hkn (by rfl) 0 rfl (by kernel_rfl) (fun _ _ _ h=>h) rfl ?_ ?_
     rotate_left
     ·rintro w' ⟨hc9, -⟩;go_simp;try with_reducible rfl
     clear hcl hkn;intro hcl hkn
     try simp only[nf]
     refine tP (i:=2) hcl hkn fun hcl hkn=>?_
     try simp only[nf]
     refine tP (i:=3) hcl hkn fun hcl hkn=>?_
     try simp only[nf]
     refine tP (i:=4) hcl hkn fun hcl hkn=>?_
     try simp only[nf]
     refine' CB [6] 7 _ (i:=5) (v:=_) rfl (by kernel_rfl) (by kernel_rfl) (by kernel_rfl) hcl hkn (by rfl) 0 rfl (by kernel_rfl) (fun _ _ _ h=>h) rfl ?_ ?_
     rotate_left
     ·rintro w' ⟨-,hcn⟩;go_simp;try with_reducible rfl
     clear hcl hkn;intro hcl hkn
     try simp only[nf]
     refine oN (i:=6) hcl fun K hK=>?_
     go_simp;refine hK _ (wr.drew.alloc (.cells #[.string nm] 9)) (CX (.inr (HA.out _ (A4.alloc (Uy (Uv wr)) _)))) ?_;clear hK K;clear hcl hkn;intro hcl hkn
     try simp only[nf]
     refine oN (i:=7) hcl fun K hK=>?_
     refine Ov T6 (.tmp 32) (.tmp 37) rfl rfl (HMr.out.grew (A4.alloc (Uy (Uv wr)) _)) rfl (Qv wr.drew nm) (EL [nm]) (It [nm]) (by have:=HT.out.1;simp;omega) (by have:=HZr.out;simp;omega) ?_;intro vb' w8 hM8 k8;obtain⟨Av,nv,kv,rfl, -, -⟩:=hM8.slice;refine hK _ _ kl ?_;clear hK K;clear hcl hkn;intro hcl hkn
     try simp only[nf]
     have hown:∀b,(Value.slice Ab nb' kb).ownBlock=some b→M0≤b:=fun b hb=>(HMr.out.lt b hb).1
     have hb8:=(HBr.out.grew (A4.alloc (Uy (Uv wr)) (.cells #[.string nm] 9))).keep k8 (fun e=>by have:=hown _ e;have:=HM0.out;omega);have hg8:=(HGr.out.grew (A4.alloc (Uy (Uv wr)) (.cells #[.string nm] 9))).keep k8 (fun b hb e=>by have:=hown _ e;have:=HM0.out;have:=HZ.out;omega);have hk8:A4 (fun b=>b=z∨M0≤b) w6 w8:=Uw (Uw HKr.out (A4.alloc (Uy (Uv wr)) (.cells #[.string nm] 9)) fun b hb e=>e.elim) k8 fun b hb e=> .inr (hown b e)
     have cc9:w8.cell? ⟨z,9,none⟩=some (.slice Ab nb' kb):=hb8.cell 9;have ff9:w8.frozen? ⟨z,9,none⟩=false:=hb8.frozen 9;have HM8:=UX hM8;have HB8:=UX hb8;have HG8:=UX hg8;have HK8:=UX hk8;clear hM8 hb8 hg8 hk8 k8
     skip
     refine tP (i:=8) hcl hkn fun hcl hkn=>?_
     try simp only[nf]
     refine oN (i:=9) hcl fun K hK=>?_
     go_simp;refine hK _ (w8.setCell ⟨z,9,none⟩ (.slice Av nv kv)) kl ?_;clear hK K;clear hcl hkn;intro hcl hkn
     try simp only[nf]
     refine aD ?_;have HB9:=UX (show AK (w8.setCell ⟨z,9,none⟩ (.slice Av nv kv)) z 29 (A8 (Ht (f:Nat) (k:Nat) (bys++[nm]) []) (.slice none 0 0) (.slice Av nv kv) (.slice none 0 0)).toArray from HB8.out.set_ 9 (.slice Av nv kv));have HK9:=UX (show A4 (fun b=>b=z∨M0≤b) w6 (w8.setCell ⟨z,9,none⟩ (.slice Av nv kv))from V0 (S:=fun b=>b=z∨M0≤b) (p:=⟨z,9,none⟩) HK8.out (.inl (.inl rfl)) (.slice Av nv kv));have hks:A4 (fun b=>b=z) w8 (w8.setCell ⟨z,9,none⟩ (.slice Av nv kv)):=V0 (S:=fun b=>b=z) (p:=⟨z,9,none⟩) (Uz _ w8) (.inl rfl) (.slice Av nv kv);have HG9:=UX (HG8.out.keep hks (fun b hb e=>by have:=HZ.out;have:b=z:=e;omega));have HM9:=UX (HM8.out.keep hks (fun b hb e=>by have:=(HM8.out.lt b hb).1;have:=HM0.out;have:b=z:=e;omega));clear hks cc9 ff9 HB8 HK8 HG8 HM8;generalize w8.setCell ⟨z,9,none⟩ (.slice Av nv kv)=w9 at*;go_wp2_with fail;go_roundw
     case rel=>exact⟨j+1,q2,bys++[nm],(.slice Av nv kv),by omega,by go_num,rfl,by omega,by rw[List.map_append];exact HM9.out,by have:=HT.out.1;simp;omega,fun s hs=>by
      rcases List.mem_append.1 hs with h|h
      ·exact HT.out.2 s h
      rw[Ug.1 h];exact HNM.out,HB9.out,HG9.out,HK9.out⟩
     case measure=>simp[intOf];omega
    have t1:((q4:Int)==1)=false:=by rw[UY];omega
    clear h1;go_wp2_with fail;go_roundw
    case rel=>exact⟨j+1,q2,bys,.slice Ab nb' kb,by omega,by go_num,rfl,by omega,HMr.out,by have:=HT.out.1;omega,HT.out.2,HBr.out,HGr.out,HKr.out⟩
    case measure=>simp[intOf];omega
   obtain rfl:j=6:=by omega
   have hgr:=HGr.out;clear hgr;have hi2b:i2+1≤i+3:=by omega
   go_upto_region 13 with(first|(go_at_call 28;(with_reducible refine(HII.out _ _ HGr.out (by omega)).mono ?_);rintro e7 w7 ⟨tx,xs,i7,rfl,hX,hok,hgs7,hi7,k7⟩;obtain⟨xa,xb,xc,hXe,hxm,hxb,hxk⟩:=hX.open_;subst hXe;obtain⟨xAm,xnm,xkm,rfl, -⟩:=hxm.slice;obtain⟨xAb,xnb,xkb,rfl, -⟩:=hxb.slice;obtain⟨xAk,xnk,xkk,rfl, -⟩:=hxk.slice;have hb7:=HBr.out.keep k7 (by have:=HZ.out;omega);have HX:=UX (UZ hX (UZ hok hi7));have HG7:=UX hgs7;have HK7:=UX k7;clear hX hok hgs7 hi7 k7 hxm hxb hxk)|((with_reducible refine DL 27 1 #[(0,.tmp 45)] rfl ?_);refine Nd rfl (.tmp 45) rfl rfl ?_;intro w8 hbk g8;have hb8:=hb7.grew g8;have HBK:=UX (UZ hbk g8);have HG8:=UX (HG7.out.grew g8);clear hbk g8;have cc10:w8.cell? ⟨z,10,none⟩=some (.slice none 0 0):=hb8.cell 10;have ff10:w8.frozen? ⟨z,10,none⟩=false:=hb8.frozen 10));have HK8:=UX (show A4 (fun b=>b=g∨w1.heap.size≤b) w1 w8 from Uw (Uw (Uw HK6.out HKr.out fun b hb e=> .inr (by have:=HM0.out;have:=HZ.out;rcases e with e|e<;>omega)) HK7.out fun b hb e=> .inl e) HBK.out.2 fun b hb e=>e.elim);have hb9:AK (w8.setCell ⟨z,10,none⟩ (.slice (some ⟨w7.heap.size,0,none⟩) 1 1)) z 29 (A8 (Ht (f:Nat) (k:Nat) bys [tx]) (.slice none 0 0) (.slice Ab nb' kb) (.slice (some ⟨w7.heap.size,0,none⟩) 1 1)).toArray:=hb8.set_ 10 (.slice (some ⟨w7.heap.size,0,none⟩) 1 1);have HG9:=UX (HG8.out.keep (S:=fun b=>b=z) (V0 (S:=fun b=>b=z) (p:=⟨z,10,none⟩) (Uz _ w8) (.inl rfl) (.slice (some ⟨w7.heap.size,0,none⟩) 1 1)) (fun b hb e=>by have:=HZ.out;have:b=z:=e;omega));have HK9:=UX (V0 (S:=fun b=>b=g∨w1.heap.size≤b) (p:=⟨z,10,none⟩) HK8.out (.inl (.inr HZ.out.2)) (.slice (some ⟨w7.heap.size,0,none⟩) 1 1));have kst:A4 (fun b=>b=z) w8 (w8.setCell ⟨z,10,none⟩ (.slice (some ⟨w7.heap.size,0,none⟩) 1 1)):=V0 (S:=fun b=>b=z) (p:=⟨z,10,none⟩) (Uz _ w8) (.inl rfl) (.slice (some ⟨w7.heap.size,0,none⟩) 1 1);have HKS:=UX kst;clear cc10 ff10 kst;generalize w8.setCell ⟨z,10,none⟩ (.slice (some ⟨w7.heap.size,0,none⟩) 1 1)=w9 at*;have hbr9:=HBR.out.keep HK9.out (fun h=>by have:=HGL.out;have:=HS.out;omega);go_wp2_with(first|(refine lN (.tmp 5) hb9 rX ?_)|(refine sN (.tmp 4) (.tmp 48) (A8 (Ht (f:Nat) (k:Nat) bys [tx]) (.slice none 0 0) (.slice Ab nb' kb) (.slice (some ⟨w7.heap.size,0,none⟩) 1 1)) hbr9 rX ?_;intro w20 hb20 k20 d20)|fail);refine rO rX hb20 ?_;have hz:=HZ.out;have hm0:=HM0.out;have hsz:=HS.out;have hgl:=HGL.out;have hzr:=HZr.out;have hs7:=HK7.out.size;have hs8:=HBK.out.2.size;have hs9:=HKS.out.size;have hs20:=k20.size;have hbk:=HBK.out.1.lt;have k8to:A4 (fun b=>b=z∨b=w.heap.size) w8 w20:=Uw (A4.mono HKS.out fun b hb e=> .inl e) k20 fun b hb e=> .inr e
   have k7to:A4 (fun b=>b=z∨b=w.heap.size) w7 w20:=Uw HBK.out.2.keeps k8to fun b hb e=>e
   have krto:A4 (fun b=>b=g∨b=z∨b=w.heap.size) wr w20:=Uw (A4.mono HK7.out fun b hb e=> .inl e) k7to fun b hb e=> .inr e
   have hkid:=HBK.out.1.keep k8to (by omega);have htx:=AN.keep (Q':=C9 0 w.heap.size w20.heap.size) (fun b hb=>⟨hb.2,by have:=hb.1;omega,.inr (by have:=hb.1;omega),Ub hb.2 k7to.size⟩) k7to _ _ HX.out.1;refine⟨_,(A8 (Ht (f:Nat) (k:Nat) bys [tx]) (.slice none 0 0) (.slice Ab nb' kb) (.slice (some ⟨w7.heap.size,0,none⟩) 1 1)),i7,rfl,AN.mk_ (BE.nil _ _ _) (BE.keep (Q':=C9 0 w.heap.size w20.heap.size) HMr.out.own (fun b hb=>⟨(HMr.out.lt b hb).2,by have:=(HMr.out.lt b hb).1;omega,.inr (by have:=(HMr.out.lt b hb).1;omega),by have:=(HMr.out.lt b hb).2;have:=krto.size;omega⟩) krto) ⟨_,1,rfl,Ua _,fun _=>⟨w7.heap.size,0,rfl,⟨.inr (by omega),by omega⟩,BN.of fun jj e' hj=>by
    rcases jj with _|jj
    ·obtain rfl:tx=e':=by simpa[Ht,Ex.kids]using hj
     exact⟨_,hkid.rangeN 0 _ rfl,htx⟩
    simp[Ht,Ex.kids]at hj⟩⟩,Rc (by omega) hk HX.out.2.1 HT.out.2 (by have:=HT.out.1;omega),((HG9.out.keep k20 (fun b hb e=>by omega))),by have:=HX.out.2.2;omega,?_⟩
   exact Uw (Uw (V2 (S:=fun b=>b=g) HG0.out) HK9.out fun b hb e=>by rcases e with e|e;exact e;omega) k20 fun b hb e=>by omega
theorem S9 {x y:Int} (hx:0≤x∧x≤2000000000) (hy:0≤y∧y≤2000000000):Kf 1 1 (Ay x y):=by
 refine⟨Ua _,Ua _,Aa.2 ⟨⟨?_,FW x y⟩,fun k hk=>nomatch hk⟩⟩;have z0:Ah 0:=Bt.1;exact⟨z0,z0,z0,z0,z0,by unfold Ah;show _≤x∧x≤_;omega,by unfold Ah;show _≤y∧y≤_;omega⟩
theorem Rn {f:Nat} (h:f<8) {a b:Ex} {N1 D1 N2 D2:Nat} (ha:Kf N1 D1 a) (hb:Kf N2 D2 b):Kf (1+N1+N2) (1+max D1 D2) (Af (f:Nat) a b):=by
 refine⟨?_,?_,Aa.2 ⟨⟨?_,CV,(fun m hm=>nomatch hm),(fun m hm=>nomatch hm),Nat.zero_le _,Nat.zero_le _⟩,fun k hk=>?_⟩⟩
 ·show 1+(AD a+(AD b+0))≤_;have:=ha.1;have:=hb.1;omega
 ·show max (Ae a) (max (Ae b) 0)+1≤_;have:=ha.2.1;have:=hb.2.1;omega
 ·have z0:Ah 0:=Bt.1;exact⟨by unfold Ah;show _≤(3:Int)∧(3:Int)≤_;omega,by unfold Ah;show _≤((f:Nat):Int)∧((f:Nat):Int)≤_;omega,z0,z0,z0,z0,z0⟩
 rcases List.mem_cons.1 hk with rfl|hk
 ·exact ha.2.2
 obtain rfl:=Ug.1 hk;exact hb.2.2
theorem SW {w:World} {z:Nat} {t:TypeId} (h:AK w z t #[.int .i64 0,.int .i64 1,.int .i64 2,.int .i64 7,.int .i64 10,.int .i64 1073741824]) {r:Nat} (hr:r<6):∃x:Int,(0≤x∧x≤2000000000)∧w.cell? ⟨z,r,none⟩=some (.int .i64 x):=by
 rcases(show r=0∨r=1∨r=2∨r=3∨r=4∨r=5 by omega)with rfl|rfl|rfl|rfl|rfl|rfl
 ·exact⟨_,by omega,h.cell 0⟩
 ·exact⟨_,by omega,h.cell 1⟩
 ·exact⟨_,by omega,h.cell 2⟩
 ·exact⟨_,by omega,h.cell 3⟩
 ·exact⟨_,by omega,h.cell 4⟩
 exact⟨_,by omega,h.cell 5⟩
theorem JG (w:World) (g B:Nat) (gn:Gn) (i N D C:Nat) (d:Int) (h:F7 w g B gn i) (hn:S2 gn) (hi:i+(20+2*C)≤40000) (hd: -100≤d∧d≤100) (hND:1≤N∧1≤D)
  (HI:1<d→∀(w':World) (i':Nat),F7 w' g B gn i'→i'≤i+4+C→Calls Tryz.prog 28 #[.pointer (some ⟨g,0,none⟩),.int .i64 (d-1)] w' (Dz g B gn w'.heap.size N D i' C w')):
  Calls Tryz.prog 28 #[.pointer (some ⟨g,0,none⟩),.int .i64 d] w (Dz g B gn w.heap.size (1+2*N) (1+D) i (20+2*C) w):=by
 have hgl:=h.1.lt;have hBg:=h.2.2.1;have hbr:=Ux w 29 (AE 0 0).toArray;have hG:=(Uv w).alloc (.cells (AE 0 0).toArray 29);have hs:(w.alloc (.cells (AE 0 0).toArray 29)).heap.size=w.heap.size+1:=by simp
 have HGS:=UX (h.grew hG);have HGL:=UX (UZ hgl hBg);have HG0:=UX hG;have HII:=UX HI;have HNO:=UX (UZ hn hND);clear h hgl hBg hG HI hn hND;go_enter Tryz.func28,Tryz.ntmps28;go_upto_region 1 with fail;change Code.wp _ _ _ _ (w.alloc (.cells (AE 0 0).toArray 29));generalize w.alloc (.cells (AE 0 0).toArray 29)=w1 at*;have HS:=UX hs;have HN8:=UX (fun(w':World) (i':Nat) (hs:F7 w' g B gn i') (hi':i'≤60000)=>show Calls Tryz.prog 48 #[.pointer (some ⟨g,0,none⟩),.int .i64 8] w' (BW g B gn i' (8) w')from by have h:=BR w' g B gn i' (8) hs (by omega) (by omega) (by omega);rwa[show(((8):Nat):Int)=8 by omega]at h);have HN6:=UX (fun(w':World) (i':Nat) (hs:F7 w' g B gn i') (hi':i'≤60000)=>show Calls Tryz.prog 48 #[.pointer (some ⟨g,0,none⟩),.int .i64 6] w' (BW g B gn i' (6) w')from by have h:=BR w' g B gn i' (6) hs (by omega) (by omega) (by omega);rwa[show(((6):Nat):Int)=6 by omega]at h);have HN4:=UX (fun(w':World) (i':Nat) (hs:F7 w' g B gn i') (hi':i'≤60000)=>show Calls Tryz.prog 48 #[.pointer (some ⟨g,0,none⟩),.int .i64 4] w' (BW g B gn i' (4) w')from by have h:=BR w' g B gn i' (4) hs (by omega) (by omega) (by omega);rwa[show(((4):Nat):Int)=4 by omega]at h);go_upto_region 2 with(first|(go_at_call 48;(with_reducible refine(HN8.out _ _ HGS.out (by omega)).mono ?_);rintro e3 w3 ⟨r,hr,rfl,hgs3,k3⟩;have HG3:=UX hgs3;have HK3:=UX k3;clear hgs3 k3));have HBR:=UX (hbr.keep HK3.out (by have:=HGL.out;omega));have HZ:=UX (show g<w.heap.size∧w.heap.size<w3.heap.size from⟨HGL.out.1,by have:=HK3.out.size;omega⟩);have HKW:=UX (show A4 (fun b=>b=g) w w3 from Uw (V2 HG0.out) HK3.out fun b hb e=>e);clear hs hbr HGS HS HK3 HG0;go_cut [21] (fun s wx=>∃q:Bool,s= .bool q∧(q=true↔(r=0∨(d≤1∧r<3)))∧w3=wx)
 case first=>
  by_cases h0:r=0
  ·subst h0;go_wp2_with fail;go_meet;exact⟨true,rfl,by simp,rfl⟩
  have t0:((r:Int)==0)=false:=by rw[UY];omega
  by_cases h1:d≤1
  ·by_cases h3:r<3
   ·have t3:decide ((r:Int)<3)=true:=by simp;omega
    go_wp2_with fail;go_meet;exact⟨true,rfl,by simp[h0,h1,h3],rfl⟩
   have t3:decide ((r:Int)<3)=false:=by simp;omega
   go_wp2_with fail;go_meet;exact⟨false,rfl,by simp[h0,h1,h3],rfl⟩
  go_wp2_with fail;go_meet;exact⟨false,rfl,⟨(fun h=>by cases h),fun h=>by omega⟩,rfl⟩
 case rest=>
  obtain⟨q,rfl,hq,hw3⟩:=hcut;subst hw3;rcases q with _|_
  ·have HQ:=UX (show ¬(r=0∨(d≤1∧r<3))from fun h=>by simpa using hq.2 h);clear hq;go_upto_region 5 with fail;go_cut [35] (fun s wx=>∃q:Bool,s= .bool q∧(q=true↔(d≤1∨r<4))∧w3=wx)
   case first=>
    by_cases h1:d≤1
    ·go_wp2_with fail;go_meet;exact⟨true,rfl,by simp[h1],rfl⟩
    by_cases h4:r<4
    ·have t4:decide ((r:Int)<4)=true:=by simp;omega
     go_wp2_with fail;go_meet;exact⟨true,rfl,by simp[h4],rfl⟩
    have t4:decide ((r:Int)<4)=false:=by simp;omega
    go_wp2_with fail;go_meet;exact⟨false,rfl,by simp[h1,h4],rfl⟩
   case rest=>
    obtain⟨q,rfl,hq,hw3⟩:=hcut;subst hw3;rcases q with _|_
    ·have HD1:=UX (show 1<d by have h:=fun h=>(hq.2 h);by_cases h1:d≤1;exact absurd (hq.2 (.inl h1)) (by simp);omega);have hr4:4≤r:=by by_cases h1:r<4;exact absurd (hq.2 (.inr h1)) (by simp);omega
     clear hq;by_cases h4:r=4
     ·have t4:((r:Int)==4)=true:=by rw[Ud];omega
      clear h4;go_wp2_with(first|(go_at_call 50;(with_reducible refine(QJ w3 g B gn (i+1) N D C d HG3.out (by omega) (by omega) (fun w' i' h h'=>HII.out HD1.out w' i' h (by omega))).mono ?_);rintro e5 w5 ⟨tx,xs,i5,rfl,hX,hok,hgs5,hi5,k5⟩;obtain⟨xa,xb,xc,hxe,hxm,hxb,hxk⟩:=hX.open_;subst hxe;obtain⟨xAm,xnm,xkm,rfl, -⟩:=hxm.slice;obtain⟨xAb,xnb,xkb,rfl, -⟩:=hxb.slice;obtain⟨xAk,xnk,xkk,rfl, -⟩:=hxk.slice;clear hxm hxb hxk;have hbr5:=HBR.out.keep k5 (by have:=HZ.out;omega);have HX:=UX (UZ hX (UZ hok hi5));have HG5:=UX hgs5;have HK5:=UX k5;clear hX hok hgs5 hi5 k5)|(refine sN (.tmp 4) (.tmp 42) (A8 tx (.slice xAm xnm xkm) (.slice xAb xnb xkb) (.slice xAk xnk xkk)) hbr5 rX ?_;intro w8 hb8 k8 d8)|fail);refine rO rX hb8 ?_;have hz:=HZ.out;have hnd:=HNO.out.2;have hi5:=HX.out.2.2;refine⟨tx,(A8 tx (.slice xAm xnm xkm) (.slice xAb xnb xkb) (.slice xAk xnk xkk)),i5,rfl,AN.keep (Q':=C9 0 w.heap.size w8.heap.size) (fun b hb=>⟨hb.2,by have:=hb.1;omega,.inr (by have:=hb.1;omega),Ub hb.2 k8.size⟩) k8 _ _ HX.out.1,HX.out.2.1.more (by omega) (by omega),HG5.out.keep k8 (fun b hb e=>by omega),by omega,?_⟩;exact Uw (Uw HKW.out HK5.out fun b hb e=>e) k8 fun b hb e=>by omega
     have t4:((r:Int)==4)=false:=by rw[UY];omega
     clear h4;go_upto_region 10 with(first|(go_at_call 48;(with_reducible refine(HN4.out _ _ HG3.out (by omega)).mono ?_);rintro e5 w5 ⟨f,hf,rfl,hgs5,k5⟩;have HG5:=UX hgs5;have HK5:=UX (Uw HKW.out k5 fun b hb e=>e);have HBR5:=UX (HBR.out.keep k5 (by have:=HZ.out;omega));have HZ5:=UX (Ub HZ.out.2 k5.size);clear hgs5 k5));have HI5:=UX (fun w' i' h h'=>HII.out HD1.out w' i' h h');have HI6:=HI5;go_upto_region 11 with(first|(go_at_call 28;(with_reducible refine(HI5.out _ _ HG5.out (by omega)).mono ?_);rintro e6 w6 ⟨ta,al,i6,rfl,hA,hok,hgs6,hi6,k6⟩;obtain⟨aa,ab,ac,hae,ham,hab,hak⟩:=hA.open_;subst hae;obtain⟨aAm,anm,akm,rfl, -⟩:=ham.slice;obtain⟨aAb,anb,akb,rfl, -⟩:=hab.slice;obtain⟨aAk,ank,akk,rfl, -⟩:=hak.slice;clear ham hab hak;have HA:=UX (UZ hA (UZ hok hi6));have HG6:=UX hgs6;have HK6:=UX k6;clear hA hok hgs6 hi6 k6)|(refine sN (.tmp 8) (.tmp 48) (A8 ta (.slice aAm anm akm) (.slice aAb anb akb) (.slice aAk ank akk)) (Ux w6 29 _) rX ?_ (us:=(AE 0 0));intro w7 hb7 k7 d7;have g7:A5 w6 w7:=Uw ((Uv w6).alloc _) k7 (fun i hi e=>by omega);have HG7:=UX (HG6.out.grew g7);have HB7:=UX (UZ hb7 g7);clear k7 d7 g7)|fail);go_upto_region 12 with(first|(go_at_call 28;(with_reducible refine(HI6.out _ _ HG7.out (by have:=HA.out.2.2;omega)).mono ?_);rintro e8 w8 ⟨tb,bs,i8,rfl,hB,hok,hgs8,hi8,k8⟩;obtain⟨ba,bb,bc,hbe,hbm,hbb,hbk⟩:=hB.open_;subst hbe;obtain⟨bAm,bnm,bkm,rfl, -⟩:=hbm.slice;obtain⟨bAb,bnb,bkb,rfl, -⟩:=hbb.slice;obtain⟨bAk,bnk,bkk,rfl, -⟩:=hbk.slice;clear hbm hbb hbk;have HB:=UX (UZ hB (UZ hok hi8));have HG8:=UX hgs8;have HK8:=UX k8;clear hB hok hgs8 hi8 k8)|(refine sN (.tmp 9) (.tmp 52) (A8 tb (.slice bAm bnm bkm) (.slice bAb bnb bkb) (.slice bAk bnk bkk)) (Ux w8 29 _) rX ?_ (us:=(AE 0 0));intro w9 hb9 k9 d9;have g9:A5 w8 w9:=Uw ((Uv w8).alloc _) k9 (fun i hi e=>by omega);have HG9:=UX (HG8.out.grew g9);have hba:=(HB7.out.1.keep HK8.out (by have:=HZ5.out;have:=HZ.out;have:=HK6.out.size;omega)).grew g9;have HGG9:=UX g9;clear k9 d9 g9)|fail);have HBRx:=UX ((((HBR5.out.keep HK6.out (by have:=HZ.out;omega)).grew HB7.out.2).keep HK8.out (by have:=HZ.out;omega)).grew HGG9.out);have HBA:=UX hba;have HB9:=UX hb9;clear hba hb9;have hba:=HBA.out;have hb9:=HB9.out;go_wp2_with(first|(refine lN (.tmp 8) hba rX ?_)|(refine lN (.tmp 9) hb9 rX ?_)|((with_reducible refine DL 27 2 #[(0,.tmp 54),(1,.tmp 55)] rfl ?_);refine D7 rfl (.tmp 54) (.tmp 55) rfl rfl rfl ?_;intro w10 hbk g10;have HBK:=UX (UZ hbk g10);have hbr10:=HBRx.out.grew g10;clear hbk g10)|(refine sN (.tmp 4) (.tmp 57) (A8 (Af (f:Nat) ta tb) (.slice none 0 0) (.slice none 0 0) (.slice (some ⟨w9.heap.size,0,none⟩) 2 2)) hbr10 rX ?_;intro w20 hb20 k20 d20)|fail);refine rO rX hb20 ?_;have hz:=HZ.out;have hz5:=HZ5.out;have s6:=HK6.out.size;have s7:=HB7.out.2.size;have s8:=HK8.out.size;have s9:=HGG9.out.size;have s10:=HBK.out.2.size;have s20:=k20.size;have hkl:=HBK.out.1.lt;have hai:=HA.out.2.2;have hbi:=HB.out.2.2;have k8to:A4 (fun b=>b=w.heap.size) w8 w20:=Uw (V2 (HGG9.out.trans HBK.out.2)) k20 fun b hb e=>e
     have k6to:A4 (fun b=>b=g∨b=w.heap.size) w6 w20:=Uw (Uw (V2 HB7.out.2) HK8.out fun b hb e=> .inl e) k8to fun b hb e=> .inr e
     have hkid:=HBK.out.1.keep k20 (by omega);have hta:=AN.keep (Q':=C9 0 w.heap.size w20.heap.size) (fun b hb=>⟨hb.2,by have:=hb.1;omega,.inr (by have:=hb.1;omega),Ub hb.2 k6to.size⟩) k6to _ _ HA.out.1;have htb:=AN.keep (Q':=C9 0 w.heap.size w20.heap.size) (fun b hb=>⟨hb.2,by have:=hb.1;omega,.inr (by have:=hb.1;omega),Ub hb.2 k8to.size⟩) k8to _ _ HB.out.1;refine⟨Af (f:Nat) ta tb,(A8 (Af (f:Nat) ta tb) (.slice none 0 0) (.slice none 0 0) (.slice (some ⟨w9.heap.size,0,none⟩) 2 2)),i8,rfl,AN.mk_ (BE.nil _ _ _) (BE.nil _ _ _) ⟨_,2,rfl,Ua _,fun _=>⟨w9.heap.size,0,rfl,⟨.inr (by omega),by omega⟩,BN.of fun j e' hj=>?_⟩⟩,(Rn (by omega) HA.out.2.1 HB.out.2.1).more (by omega) (by rw[Nat.max_self];omega),((HG9.out.grew HBK.out.2).keep k20 (fun b hb e=>by omega)),by omega,?_⟩
     ·rcases j with _|_|j
      ·obtain rfl:ta=e':=by simpa[Af,Ex.kids]using hj
       exact⟨_,hkid.rangeN 0 _ rfl,hta⟩
      ·obtain rfl:tb=e':=by simpa[Af,Ex.kids]using hj
       exact⟨_,hkid.rangeN 11 _ rfl,htb⟩
      simp[Af,Ex.kids]at hj
     exact Uw (Uw HK5.out HK6.out fun b hb e=>e) k6to fun b hb e=>by omega
    clear hq;go_wp2_with(first|(go_at_call 49;(with_reducible refine(OC w3 g B gn (i+1) HG3.out HNO.out.1 (by omega)).mono ?_);rintro e5 w5 ⟨tx,xs,i5,rfl,hX,hok,hgs5,hi5,k5⟩;obtain⟨xa,xb,xc,hxe,hxm,hxb,hxk⟩:=hX.open_;subst hxe;obtain⟨xAm,xnm,xkm,rfl, -⟩:=hxm.slice;obtain⟨xAb,xnb,xkb,rfl, -⟩:=hxb.slice;obtain⟨xAk,xnk,xkk,rfl, -⟩:=hxk.slice;clear hxm hxb hxk;have hbr5:=HBR.out.keep k5 (by have:=HZ.out;omega);have HX:=UX (UZ hX (UZ hok hi5));have HG5:=UX hgs5;have HK5:=UX k5;clear hX hok hgs5 hi5 k5)|(refine sN (.tmp 4) (.tmp 37) (A8 tx (.slice xAm xnm xkm) (.slice xAb xnb xkb) (.slice xAk xnk xkk)) hbr5 rX ?_;intro w8 hb8 k8 d8)|fail);refine rO rX hb8 ?_;have hz:=HZ.out;have hnd:=HNO.out.2;have hi5:=HX.out.2.2;refine⟨tx,(A8 tx (.slice xAm xnm xkm) (.slice xAb xnb xkb) (.slice xAk xnk xkk)),i5,rfl,AN.keep (Q':=C9 0 w.heap.size w8.heap.size) (fun b hb=>⟨hb.2,by have:=hb.1;omega,.inr (by have:=hb.1;omega),Ub hb.2 k8.size⟩) k8 _ _ HX.out.1,HX.out.2.1.more (by omega) (by omega),HG5.out.keep k8 (fun b hb e=>by omega),by omega,?_⟩;exact Uw (Uw HKW.out HK5.out fun b hb e=>e) k8 fun b hb e=>by omega
  clear hq;have hbS:=Ux w3 3 #[.int .i64 0,.int .i64 1,.int .i64 2,.int .i64 7,.int .i64 10,.int .i64 1073741824];have hG2:=(Uv w3).alloc (.cells #[.int .i64 0,.int .i64 1,.int .i64 2,.int .i64 7,.int .i64 10,.int .i64 1073741824] 3);have HA:=UX (UZ hbS (UZ hG2 (HBR.out.grew hG2)));have hgs2:=HG3.out.grew hG2;have HG2:=UX hgs2;clear hbS hG2 hgs2;go_upto_region 4 with(first|(go_at_call 48;(with_reducible refine(HN6.out _ _ HG2.out (by omega)).mono ?_);rintro e5 w5 ⟨q,hq6,rfl,hgs5,k5⟩;have HG5:=UX hgs5;have HK5:=UX k5;clear hgs5 k5;obtain⟨x,hx,hcx⟩:=SW (HA.out.1.keep HK5.out (by have:=HZ.out;omega)) hq6));have HX:=UX hx;have hbr5:=HA.out.2.2.keep HK5.out (by have:=HZ.out;omega);go_wp2_with(first|(refine sN (.tmp 4) (.tmp 29) (AE x 1) hbr5 rX ?_;intro w8 hb8 k8 d8)|fail);refine rO rX hb8 ?_;have hz:=HZ.out;refine⟨Ay x 1,AE x 1,i+1+1,rfl,(FQ _ _ _ _).loose,(S9 HX.out (by omega)).more (by omega) (by omega),HG5.out.keep k8 (fun b hb e=>by omega),by omega,?_⟩;exact Uw (Uw (Uw HKW.out HA.out.2.1 fun b hb e=>e.elim) HK5.out fun b hb e=>e) k8 fun b hb e=>by omega
def c7:Nat→Nat
 |0=>20
 |n+1=>20+2*c7 n
def n7:Nat→Nat
 |0=>3
 |n+1=>1+2*n7 n
def d7:Nat→Nat
 |0=>2
 |n+1=>1+d7 n
theorem Ry (n:Nat):1≤n7 n:=by cases n<;>simp[n7]
theorem Rk (n:Nat):1≤d7 n:=by cases n<;>simp[d7]
theorem MH (n:Nat):∀(d:Int),d≤n+1→ -50≤d→d≤50→∀(w:World) (g B:Nat) (gn:Gn) (i:Nat),F7 w g B gn i→S2 gn→i+c7 n≤40000→Calls Tryz.prog 28 #[.pointer (some ⟨g,0,none⟩),.int .i64 d] w (Dz g B gn w.heap.size (n7 n) (d7 n) i (c7 n) w):=by
 induction n with
 |zero=>exact fun d h1 h2 h3 w g B gn i h hn hi=>JG w g B gn i 1 1 0 d h hn hi (by omega) (by omega) (fun hd=>by omega)
 |succ n ih=>exact fun d h1 h2 h3 w g B gn i h hn hi=>JG w g B gn i (n7 n) (d7 n) (c7 n) d h hn hi (by omega) ⟨Ry n,Rk n⟩ (fun hd w' i' hs hi'=>ih (d-1) (by omega) (by omega) (by omega) w' g B gn i' hs hn (by have:c7 (n+1)=20+2*c7 n:=rfl;omega))
end Go.Proofs.YtkclnhpofkaclaaGreatDoor
