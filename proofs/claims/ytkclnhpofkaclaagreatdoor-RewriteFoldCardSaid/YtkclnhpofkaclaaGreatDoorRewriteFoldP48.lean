/- What the card of the law stands on: RowS, Spoilt, LawRwf. -/
import Derived.Test.YtkclnhpofkaclaaGreatDoorRewriteFoldP10
import Derived.Test.YtkclnhpofkaclaaGreatDoorRewriteFoldP01
import Derived.Test.YtkclnhpofkaclaaGreatDoorRewriteFoldP47
import Derived.Test.YtkclnhpofkaclaaGreatDoorRewriteFoldP15
import Derived.Test.YtkclnhpofkaclaaGreatDoorRewriteFoldP04
import Derived.Test.YtkclnhpofkaclaaGreatDoorRewriteFoldP39
import Derived.Test.YtkclnhpofkaclaaGreatDoorRewriteFoldP43
import Derived.Test.YtkclnhpofkaclaaGreatDoorRewriteFoldP46
import Derived.Test.YtkclnhpofkaclaaGreatDoorRewriteFoldP19
import Derived.Test.YtkclnhpofkaclaaGreatDoorRewriteFoldP11
set_option maxRecDepth 100000
set_option maxHeartbeats 12800000
set_option linter.unusedVariables false
set_option linter.unusedSimpArgs false
namespace Go.Proofs.YtkclnhpofkaclaaGreatDoor
open Go.RowKit
theorem Hn {sz:Nat} {vs:List Value} (hv:vs.length=sz):∀{rows:List (List Value)} {j:Nat},E4 sz rows→j<rows.length→(rows.set j vs).flatten=rows.flatten.take (j*sz)++vs++rows.flatten.drop (j*sz+sz)
 |[],j,_,h=>absurd h (by simp)
 |r::rs,0,he,_=>by
  have hr:=he r List.mem_cons_self;rw[List.set_cons_zero,List.flatten_cons,List.flatten_cons,Nat.zero_mul,Nat.zero_add,List.take_zero,List.nil_append,←hr,List.drop_left]
 |r::rs,j+1,he,h=>by
  have hr:=he r List.mem_cons_self;have ih:=Hn hv (fun r hr=>he r (List.mem_cons_of_mem _ hr)) (show j<rs.length by simpa using h);rw[List.set_cons_succ,List.flatten_cons,List.flatten_cons,ih,show(j+1)*sz=r.length+j*sz by rw[Nat.succ_mul,hr];omega,List.take_length_add_append,Uu,List.drop_length_add_append];simp
theorem P9 {us vs:List Value} {o m:Nat} (h1:o+vs.length≤m) (h2:m≤us.length):(us.take o++vs++us.drop (o+vs.length)).take m=(us.take m).take o++vs++(us.take m).drop (o+vs.length):=by
 have e1:(us.take m).take o=us.take o:=by rw[List.take_take,Nat.min_eq_left (by omega)]
 have e2:(us.take m).drop (o+vs.length)=(us.drop (o+vs.length)).take (m-(o+vs.length)):=List.drop_take ..;have e3:(us.take o++vs).length=o+vs.length:=by rw[Us,List.length_take,Nat.min_eq_left (by omega)]
 rw[e1,e2,List.take_append,e3,List.take_of_length_le (by omega)]
section
variable {P:Program} {w:World} {base sz r n cap j:Nat} {e T:TypeId} {rows:List (List Value)} {vs:List Value}
theorem AX.put (hM:AX w base e sz (.slice (some ⟨r,0,none⟩) n cap) rows) (hj:j<rows.length) (hl:vs.length=sz):AX (w.setCells r (j*sz) vs) base e sz (.slice (some ⟨r,0,none⟩) n cap) (rows.set j vs)∧w.there r (j*sz) vs.length:=by
 have he:=hM.2;rcases hM.form with⟨h, -⟩|⟨g,cap',cur,hv,hb,hbox,h1,h2,h3,h4⟩
 ·cases h
 injection hv with ha hn hc;injection ha with ha;injection ha with ha;subst ha hn hc;have hjs:(j+1)*sz≤rows.length*sz:=Nat.mul_le_mul_right _ hj;have hcs:rows.length*sz≤cap*sz:=Nat.mul_le_mul_right _ h1;rw[Nat.succ_mul]at hjs;have hbox':AK w r e cur.toList.toArray:=hbox;have hcl:cur.toList.length=cap*sz:=by rw[Array.length_toList,h3]
 have hp:=hbox'.putN vs (j*sz) (by rw[hl,hcl];omega);have he':E4 sz (rows.set j vs):=fun x hx=>by
  rcases List.mem_or_eq_of_mem_set hx with hx|rfl
  ·exact he x hx
  exact hl
 refine⟨⟨?_,he'⟩,hbox'.thereN _ _ (by rw[hl,hcl];omega)⟩;rw[List.length_set];refine⟨by rw[BL he',List.length_set],.inr ⟨r,cap,_,rfl,hb,hp,h1,h2,?_,?_⟩⟩
 ·rw[List.size_toArray,Us,Us,List.length_take,List.length_drop,hcl,hl];omega
 rw[P9 (by rw[hl];omega) (by rw[hcl];omega),h4,Hn hl he hj,hl]
theorem R3 {ops:Array Oper} {rest:List Oper} {o:Oper} {a:Act} {Q:Exit→Act→World→Prop} (x y:Operand) (hT:(P.info? T).map (·.size)=some vs.length) (h1:∀v∈vs,v.oneCell'=true) (hl:vs.length=sz) (hgd:o.guard=none) (ho:o.op= .store T x y)
  (hx:a.eval x= .pointer (some ⟨r,j*sz,none⟩)) (hy:a.eval y= .agg vs.toArray) (hM:AX w base e sz (.slice (some ⟨r,0,none⟩) n cap) rows) (hj:j<rows.length)
  (h:∀w',AX w' base e sz (.slice (some ⟨r,0,none⟩) n cap) (rows.set j vs)→A4 (fun i=>i=r) w w'→wpList P ops Q rest (a.put o.dst undef) w'):wpList P ops Q (o::rest) a w:=by
 obtain⟨h2,h3⟩:=hM.put hj hl;exact wpList_store_mid hgd T x y ho r (j*sz) vs.toArray hx hy (by simpa using h3) (by simpa using hT) (all_oneCell_toArray h1) (h _ h2 (C2 r vs (j*sz) w).1)
end
end Go.Proofs.YtkclnhpofkaclaaGreatDoor
namespace Go.Proofs.YtkclnhpofkaclaaGreatDoor
open Go.RowKit Pl
theorem IZ {t:Ex} (h:Bh t=0):t.ms.length≤8∧t.bys.length≤8:=by
 unfold Bh at h
 repeat' split at h
 all_goals first|omega|(exfalso;omega)|skip
theorem PO {n:Int} (h:Ah n):Ah (n.tdiv 4):=by
 unfold Ah at*;rcases(show n<0∨0≤n by omega)with hn|hn
 ·have e:n.tdiv 4= -((-n).tdiv 4):=by rw[Int.neg_tdiv,Int.neg_neg]
  rw[e,Int.tdiv_eq_ediv_of_nonneg (by omega)];omega
 rw[Int.tdiv_eq_ediv_of_nonneg hn];omega
theorem OA {n:Int} (h:Ah n):wrap64 n=n:=by
 unfold Ah at h;unfold wrap64;omega
theorem ON {w:World} {base sz n:Nat} {t:TypeId} {v:Value} {rows:List (List Value)} (h:AX w base t sz v rows) (hl:rows.length=n) (hn:0<n):∃r c,v= .slice (some ⟨r,0,none⟩) n c:=by
 rcases h.form with⟨-,rfl⟩|⟨g,cap,cur,rfl, -⟩
 ·simp at hl;omega
 exact⟨g,cap,by rw[hl]⟩
theorem MA {w:World} {base n r c j:Nat} {t:TypeId} {rows:List (List Value)} {cs:List Value} (h:AX w base t 11 (.slice (some ⟨r,0,none⟩) n c) rows) (hj:rows[j]? =some cs):w.rangeAt r (j*11) cs:=by
 obtain⟨A,c',hv,_,hx⟩:=h.rd;injection hv with hA;obtain⟨b,o,e, -,hcell⟩:=hx (by have:=(Uh.1 hj).1;omega);rw[e]at hA;injection hA with hA;injection hA with h1 h2;subst h1 h2;have:=hcell j cs hj;rwa[Nat.zero_add]at this
theorem IM:∀(k:Nat) (t:Ex),AD t≤k→k≤900→∀(cs:List Value) (w:World) (Q:Nat→Prop) (at_ which v:Int),(∀b,Q b→b<w.heap.size)→AV w Q t cs→Aw RN t→Ah at_→Ah which→Ah v→
  Calls Tryz.prog 6 #[.agg cs.toArray,.int .i64 at_,.int .i64 which,.int .i64 v] w (Dq (AD t+1) (Ae t+1) w Q)
 |0,t,h,_,_,_,_,_,_,_,_,_,_,_,_,_=>absurd (AZ t) (by omega)
 |k+1,t,hk,hk9,cs,w,Q,at_,which,v,hQ,ht,hg,ha,hw,hv=>by
  have HREAD:=UX ht;obtain⟨va,vb,vk,rfl,hms,hbs,hks⟩:=ht.open_;obtain⟨Am,hvm⟩:=hms.tight;obtain⟨Ab,hvb⟩:=hbs.tight;obtain⟨Ak,hvk⟩:=hks.tight;obtain⟨nk,hnk⟩:∃n,t.kids.length=n:=⟨_,rfl⟩;obtain⟨nm,hnm⟩:∃n,(t.ms.map AL).length=n:=⟨_,rfl⟩;obtain⟨nb,hnb⟩:∃n,(t.bys.map fun s=>[Value.string s]).length=n:=⟨_,rfl⟩;rw[hnm]at hvm;rw[hnb]at hvb;rw[hnk]at hvk;subst hvm;subst hvb;subst hvk;have HMs:=UX hms;have HBs:=UX hbs;have HKs:=UX hks;have HNK:=UX hnk;have HAll:=UX (show Aw B1 t from hg.mono (fun _ h=>h.1) _ _ (Ua _));have hkl:=B9 t.kids;have hne:=Ao t;have HSm:=UX (show t.ms.length≤900∧t.bys.length≤900∧t.kids.length≤900 from⟨by have:=(IZ hg.top.2).1;omega,by have:=(IZ hg.top.2).2;omega,by omega⟩);have HQ:=UX hQ;have HV:=UX (UZ ha (UZ hw hv));have HIH:=UX (fun(e':Ex) (cs:List Value) (w':World) (Q':Nat→Prop) (at':Int) (h1:e'∈t.kids) (hQ':∀b,Q' b→b<w'.heap.size) (hr:AV w' Q' e' cs) (hat:Ah at')=>IM k e' (by have:=AT h1;omega) (by omega) cs w' Q' at' which v hQ' hr (hg.kid h1) hat hw hv);obtain⟨r,hr⟩:∃r,Er at_ 4=r:=⟨_,rfl⟩;have hr4:r<4:=hr▸EC at_ 4 (by decide);have HAr:=UX (fun(w':World)=>show Calls Tryz.prog 13 #[.int .i64 at_,.int .i64 4] w' (fun e w''=>e= .returned (.int .i64 (r:Nat))∧w'=w'')from by have h:=CM at_ 4 w' ha (by decide) (by decide);rw[hr]at h;rwa[show(((4):Nat):Int)=4 by omega]at h);have hb1:=Ux w 29 (A8 t (.slice Am nm nm) (.slice Ab nb nb) (.slice Ak nk nk)).toArray;have hg1:=(Uv w).alloc (.cells (A8 t (.slice Am nm nm) (.slice Ab nb nb) (.slice Ak nk nk)).toArray 29);have hs1:(w.alloc (.cells (A8 t (.slice Am nm nm) (.slice Ab nb nb) (.slice Ak nk nk)).toArray 29)).heap.size=w.heap.size+1:=by simp
  have hb2:=Ux (w.alloc (.cells (A8 t (.slice Am nm nm) (.slice Ab nb nb) (.slice Ak nk nk)).toArray 29)) 29 (AE 0 0).toArray;have hg2:=(Uv (w.alloc (.cells (A8 t (.slice Am nm nm) (.slice Ab nb nb) (.slice Ak nk nk)).toArray 29))).alloc (.cells (AE 0 0).toArray 29);have hs2:((w.alloc (.cells (A8 t (.slice Am nm nm) (.slice Ab nb nb) (.slice Ak nk nk)).toArray 29)).alloc (.cells (AE 0 0).toArray 29)).heap.size=w.heap.size+2:=by simp
  rw[hs1]at hb2;have HON:=UX (AP ht);clear hms hbs hks ht hg hQ ha hw hv hr hnk hkl hne hk hk9 hs1 hnm hnb;go_enter Tryz.func6,Tryz.ntmps6;go_upto_region 1 with fail;change Code.wp _ _ _ _ ((w.alloc (.cells (A8 t (.slice Am nm nm) (.slice Ab nb nb) (.slice Ak nk nk)).toArray 29)).alloc (.cells (AE 0 0).toArray 29));have hb1:=hb1.grew hg2;have HG:=UX (hg1.trans hg2);clear hg1 hg2;generalize ((w.alloc (.cells (A8 t (.slice Am nm nm) (.slice Ab nb nb) (.slice Ak nk nk)).toArray 29)).alloc (.cells (AE 0 0).toArray 29))=w1 at*;have HS:=UX hs2;clear hs2;go_upto_region 2 with(go_at_call 13;(with_reducible refine(HAr.out _).mono ?_);rintro e w2 ⟨rfl,rfl⟩);clear HAr;have hc10:w1.cell? ⟨w.heap.size,10,none⟩=some (.slice Ak nk nk):=hb1.cell 10;have HCh:=UX (show Calls Tryz.prog 14 #[.agg (A8 t (.slice Am nm nm) (.slice Ab nb nb) (.slice Ak nk nk)).toArray,.int .i64 which,.int .i64 v] w1 (Dq (AD t+1) (Ae t+1) w1 Q)from Ki t _ w1 Q which v (fun b hb=>Ub (HQ.out b hb) HG.out.size) (AV.keep (S:=fun _=>False) (fun b hb=>⟨HQ.out b hb,fun h=>h,hb⟩) HG.out t _ HREAD.out) HAll.out HSm.out HV.out.2.1 HV.out.2.2);by_cases h0:r=0
  ·have t0:((r:Int)==0)=true:=by rw[Ud];omega
   clear h0;go_upto_region 3 with fail;go_wp2_with(first|(refine lN (.tmp 4) hb1 rX ?_)|(go_at_call 14;(with_reducible refine HCh.out.mono ?_);rintro e4 w4 ⟨t',U,rfl,hU,hok,k4⟩;have hU1:=AQ hU;have hUl:U.length=11:=(by obtain⟨a,b,c,h, -⟩:=hU.open_;rw[h];rfl);have HU:=UX hU;have HUl:=UX hUl;have HK:=UX (UZ hok k4);have hb4:=hb2.grew k4;clear hU hUl hok k4)|(refine sN (.tmp 8) (.tmp 25) U hb4 rX ?_ (hl:=HUl.out) (h1:=hU1);intro w8 hb8 k8 d8)|fail);refine rO rX hb8 ?_ (hl:=HUl.out);have hs:=HS.out;have hz:=k8.size;have hz4:=HK.out.2.size;exact⟨t',U,rfl,AN.keep (S:=fun b=>b=w.heap.size+1) (Q':=fun b=>Q b∨w.heap.size≤b∧b<w8.heap.size) (fun b hb=>by
    rcases hb with hb|⟨h1,h2⟩
    ·have:=HQ.out b hb;exact⟨by omega,by omega,.inl hb⟩
    exact⟨h2,by omega,.inr ⟨by omega,by omega⟩⟩) k8 _ _ HU.out,HK.out.1,Uw (HG.out.trans HK.out.2) k8 fun b hb e=>by omega⟩
  have t0:((r:Int)==0)=false:=by rw[UY];omega
  by_cases hn0:nk=0
  ·have t1:((nk:Int)==0)=true:=by rw[Ud];omega
   clear hn0 h0;go_upto_region 3 with fail;go_wp2_with(first|(refine lN (.tmp 4) hb1 rX ?_)|(go_at_call 14;(with_reducible refine HCh.out.mono ?_);rintro e4 w4 ⟨t',U,rfl,hU,hok,k4⟩;have hU1:=AQ hU;have hUl:U.length=11:=(by obtain⟨a,b,c,h, -⟩:=hU.open_;rw[h];rfl);have HU:=UX hU;have HUl:=UX hUl;have HK:=UX (UZ hok k4);have hb4:=hb2.grew k4;clear hU hUl hok k4)|(refine sN (.tmp 8) (.tmp 25) U hb4 rX ?_ (hl:=HUl.out) (h1:=hU1);intro w8 hb8 k8 d8)|fail);refine rO rX hb8 ?_ (hl:=HUl.out);have hs:=HS.out;have hz:=k8.size;have hz4:=HK.out.2.size;exact⟨t',U,rfl,AN.keep (S:=fun b=>b=w.heap.size+1) (Q':=fun b=>Q b∨w.heap.size≤b∧b<w8.heap.size) (fun b hb=>by
    rcases hb with hb|⟨h1,h2⟩
    ·have:=HQ.out b hb;exact⟨by omega,by omega,.inl hb⟩
    exact⟨h2,by omega,.inr ⟨by omega,by omega⟩⟩) k8 _ _ HU.out,HK.out.1,Uw (HG.out.trans HK.out.2) k8 fun b hb e=>by omega⟩
  have t1:((nk:Int)==0)=false:=by rw[UY];omega
  obtain⟨rows,hrl,hre,hr1,hrr,hrt⟩:=HKs.out.rows HQ.out;have hrl':rows.length=nk:=by rw[hrl,HNK.out]
  obtain⟨j,hj⟩:∃j,r%nk=j:=⟨_,rfl⟩;have hjn:j<nk:=hj▸Nat.mod_lt _ (by omega);have e6:(r:Int).tmod (nk:Int)=((j:Nat):Int):=by rw[Int.tmod_eq_emod_of_nonneg (by omega),←hj];rfl
  obtain⟨e',he'⟩:∃e',t.kids[j]? =some e':=⟨_,Uc (by rw[HNK.out];exact hjn)⟩;obtain⟨csk,hck⟩:∃c,rows[j]? =some c:=⟨_,Uc (by omega)⟩;have hrk:=hrt j e' csk he' hck;have hlk:=hrk.len;have hq4:Ah (at_.tdiv 4):=PO HV.out.1;have hi1:(0:Int)≤(j:Int):=by omega
  have hi2:(j:Int)<(nk:Int):=by omega
  have HRR:=UX (UZ hre (UZ hr1 hrr));have HRT:=UX hrt;have HE:=UX (UZ he' (UZ hck (UZ hrk hlk)));have HJ:=UX (UZ hrl' (UZ hjn hq4));have HNZ:=UX (UZ hn0 h0);clear hrl hre hr1 hrr hrt hrl' hj hjn he' hck hrk hlk hq4 hn0 h0;go_upto_region 6 with(first|(at_builtin;refine FX S5 rfl (.tmp 26) (.tmp 28) rfl rfl (AX.nil w1 (w.heap.size+2) 29 11) rfl (HRR.out.2.2.keep (Ua _) (Ua _) HG.out (fun _ _ h=>h)) HRR.out.1 HRR.out.2.1 (by have:=HJ.out.1;have:=HSm.out.2.2;have:=HNK.out;simp;omega) (by have:=HS.out;omega) ?_;intro v5 w5 hM5 k5;rw[List.nil_append]at hM5;obtain⟨r5,c5,hv5⟩:=ON hM5 HJ.out.1 (by have:=HJ.out.2.1;omega);subst hv5;have k5g:A5 w1 w5:=Uw (Uv w1) k5 (fun i hi e=>by cases e)));have HM5:=UX hM5;have HK5:=UX k5g;clear hM5 k5 k5g;go_upto_region 7 with fail;obtain⟨he',hck,hrk,hlk⟩:=HE.out;have HRg:=UX (show w5.rangeAt r5 (j*11) csk from(MA HM5.out hck));have HI:=UX (HIH.out e' csk w5 Q (wrap64 (at_.tdiv 4)) (Uk he') (fun b hb=>Ub (HQ.out b hb) (Ue HG.out.size HK5.out.size)) (AV.keep (S:=fun _=>False) (fun b hb=>⟨HQ.out b hb,fun h=>h,hb⟩) (HG.out.trans HK5.out) e' csk hrk) (by rw[OA HJ.out.2.2];exact HJ.out.2.2));clear he' hck hrk hlk;have hb15:=hb1.grew HK5.out;have hb25:=hb2.grew HK5.out;go_upto_region 8 with(first|(refine lM (.tmp 38) HRg.out rX ?_ (hl:=HE.out.2.2.2))|(go_at_call 6;(with_reducible refine HI.out.mono ?_);rintro e6 w6 ⟨x,U,rfl,hU,hok,k6⟩;have hU1:=AQ hU;have hUl:U.length=11:=(by obtain⟨a,b,c,h, -⟩:=hU.open_;rw[h];rfl);have hM6:=HM5.out.grew k6;have HU:=UX hU;have HUl:=UX hUl;have HK6:=UX (UZ hok k6);have hb16:=hb15.grew k6;have hb26:=hb25.grew k6;clear hU hUl hok k6)|((with_reducible refine Cw 29 (.tmp 45) (.tmp 44) rfl ?_);refine R3 (base:=w.heap.size+2) (sz:=11) (r:=r5) (n:=nk) (cap:=c5) (j:=j) (e:=29) (rows:=rows) (vs:=U) (.tmp 45) (.tmp 44) (by rw[HUl.out];exact Bd) hU1 HUl.out rfl rfl rfl rfl hM6 (by have:=HJ.out;omega) ?_;intro w7 hM7 k7)|fail);have hm5:=HM5.out.lt r5 rfl;have hb17:=hb16.keep k7 (by omega);have hb27:=hb26.keep k7 (by omega);have c10:w7.cell? ⟨w.heap.size,10,none⟩=some (.slice Ak nk nk):=hb17.cell 10;have f10:w7.frozen? ⟨w.heap.size,10,none⟩=false:=hb17.frozen 10;have HM7:=UX hM7;have HK7:=UX k7;have HBB:=UX (UZ hb17 hb27);have HM5L:=UX hm5;clear hM6 hM7 k7 hb16 hb26 hb15 hb25 hb17 hb27 hm5 hb1 hb2 hc10 hU1;go_upto_region 9 with fail;have hb1':AK (w7.setCell ⟨w.heap.size,10,none⟩ (.slice (some ⟨r5,0,none⟩) nk c5)) w.heap.size 29 (A8 t (.slice Am nm nm) (.slice Ab nb nb) (.slice (some ⟨r5,0,none⟩) nk c5)).toArray:=HBB.out.1.set_ 10 _;have hks:A4 (fun b=>b=w.heap.size) w7 (w7.setCell ⟨w.heap.size,10,none⟩ (.slice (some ⟨r5,0,none⟩) nk c5)):=V0 (S:=fun b=>b=w.heap.size) (p:=⟨w.heap.size,10,none⟩) (Uz _ w7) (.inl rfl) (.slice (some ⟨r5,0,none⟩) nk c5);have hM8:=HM7.out.keep hks (fun b hb e=>by have:=(HM7.out.lt b hb).1;omega);have hb2':=HBB.out.2.keep hks (by omega);have k57:A4 (fun i=>w.heap.size≤i) w w7:=Uw ((HG.out.trans HK5.out).trans HK6.out.2).keeps HK7.out (fun i hi e=>by have:=HM5L.out.1;omega);have k2:A4 (fun i=>w.heap.size≤i) w _:=Uw k57 hks (fun i hi e=>by omega);have k68:A4 (fun i=>i=r5∨i=w.heap.size) w6 _:=Uw (Uw (Uz _ w6) HK7.out (fun i hi e=> .inl e)) hks (fun i hi e=> .inr e);generalize w7.setCell ⟨w.heap.size,10,none⟩ (.slice (some ⟨r5,0,none⟩) nk c5)=w2 at hb1' hb2' hks k2 hM8 k68 ⊢;have HE2:=UX (fun(w8:World) (k8:A4 (fun i=>i=w.heap.size+1) w2 w8)=>show Dq (AD t+1) (Ae t+1) w Q (.returned (.agg (A8 t (.slice Am nm nm) (.slice Ab nb nb) (.slice (some ⟨r5,0,none⟩) nk c5)).toArray)) w8 from by
   have s5:=(HG.out.trans HK5.out).size;have hs1:=HS.out;have hm5:=HM5L.out;rw[←D5 t (t.kids.set j x)];refine G9 (t':=t.withKids (t.kids.set j x)) (by rw[Ig];exact Es HMs.out HQ.out k2) (by rw[Gx];exact Es HBs.out HQ.out k2) ?_ (Ru HAll.out HE.out.1 HK6.out.1) HQ.out k2 k8;rw[Bq];refine hM8.treesQ (by rw[List.length_set,List.length_set,HJ.out.1,HNK.out]) (fun b hb=> .inr (hM8.lt b hb)) fun i e cs h1 h2=>?_
   by_cases hij:j=i
   ·subst hij;rw[List.getElem?_set_self (by rw[HNK.out];exact HJ.out.2.1)]at h1;rw[List.getElem?_set_self (by rw[HJ.out.1];exact HJ.out.2.1)]at h2;obtain rfl:x=e:=by simpa using h1
    obtain rfl:U=cs:=by simpa using h2
    refine AN.keep (S:=fun i=>i=r5∨i=w.heap.size) (fun b hb=>?_) k68 _ _ HU.out;have hs6:=HK6.out.2.size;have hs68:=k68.size;rcases hb with hb|⟨h3,h4⟩
    ·have:=HQ.out b hb;exact⟨by omega,by omega,.inl hb⟩
    exact⟨h4,by omega,.inr ⟨by have:=HG.out.size;have:=HK5.out.size;omega,by omega⟩⟩
   rw[List.getElem?_set_ne hij]at h1 h2;exact(AV.keep (S:=fun i=>w.heap.size≤i) (Q':=QC w Q w2) (fun b hb=>⟨HQ.out b hb,by have:=HQ.out b hb;omega,.inl hb⟩) k2 _ _ (HRT.out i e cs h1 h2)).loose)
  clear c10 f10 hks k2 k57 k68 hM8;go_wp2_with(first|(refine lN (.tmp 4) hb1' rX ?_)|(refine sN (.tmp 8) (.tmp 48) (A8 t (.slice Am nm nm) (.slice Ab nb nb) (.slice (some ⟨r5,0,none⟩) nk c5)) hb2' rX ?_;intro w8 hb8 k8 d8)|fail);refine rO rX hb8 ?_;exact HE2.out w8 k8
theorem JW:∀(n:Nat) (e:Ex),AD e≤n→Aw B1 e→DW e
 |0,e,h,_=>absurd (AZ e) (by omega)
 |n+1,e,h,hok=>by
  have h1:=hok.top;have h2:=Ao e;have h3:Du e.kids:=Jh fun k hk=>JW n k (by have:=AT hk;omega) (hok.kid hk)
  cases e;unfold DW;exact⟨Ue h1.2.2.2.2.1 (by decide),Ue h1.2.2.2.2.2 (by decide),h3⟩
theorem LK {e:Ex} (h:Aw B1 e):Aw B1 (Cc e)∧AD (Cc e)≤AD e:=by
 unfold Cc;split
 ·exact⟨IE (AD e) e (Ua _) h,FB (AD e) e (Ua _)⟩
 exact⟨h,Ua _⟩
def M6 (z:Nat) (t:Ex) (cs:List Value) (wf:World):Prop:=Cy wf∧BC wf wf.heap.size t cs∧AK wf z 29 cs.toArray∧Aw B1 t∧AD t≤1000000
section
variable {z:Nat} {t:Ex} {cs:List Value} {wf w':World}
theorem M6.grew (h:M6 z t cs wf) (g:A5 wf w'):M6 z t cs w':=⟨h.1.grew g,h.2.1.grew g,h.2.2.1.grew g,h.2.2.2⟩
theorem M6.row (h:M6 z t cs wf):wf.rangeAt z 0 cs:=h.2.2.1.rangeN 0 _ (by simp)
theorem M6.len (h:M6 z t cs wf):cs.length=11:=BT h.2.1
theorem M6.pf (h:M6 z t cs wf):Calls Tryz.prog 8 #[.agg cs.toArray] wf fun e' w'=>∃c,e'= .returned (.agg c.toArray)∧BC w' w'.heap.size (Cc t) c∧A5 wf w':=
 (Ns t h.2.2.2.2 h.2.2.2.1 wf cs h.1 h.2.1).mono fun e' w' ⟨c,he,hr,g⟩=>⟨c,he,AN.toB (fun b hb=>hb.2) _ _ hr,g⟩
theorem M6.rf (h:M6 z t cs wf):Calls Tryz.prog 9 #[.agg cs.toArray] wf fun e' w'=>∃c,e'= .returned (.agg c.toArray)∧BC w' w'.heap.size (Cc t) c∧A5 wf w':=
 (O9 t h.2.2.2.2 h.2.2.2.1 wf wf.heap.size cs (Ua _) h.2.1).mono fun e' w' ⟨c,he,hr,g⟩=>⟨c,he,AN.toB (fun b hb=>hb.2) _ _ hr,g⟩
theorem M6.eq (h:M6 z t cs wf) {w':World} {c1 c2:List Value} (h1:BC w' w'.heap.size (Cc t) c1) (h2:BC w' w'.heap.size (Cc t) c2):Calls Tryz.prog 7 #[.agg c1.toArray,.agg c2.toArray] w' fun e' w''=>e'= .returned (.bool true)∧A5 w' w'':=
 NI (AD (Cc t)) (Cc t) (Ua _) (Ue (LK h.2.2.2.1).2 h.2.2.2.2) (JW (AD (Cc t)) (Cc t) (Ua _) (LK h.2.2.2.1).1) w' c1 c2 h1 h2
end
theorem MM (w:World) (v:Value) (l:List Int) (a b c:Int) (hr:Rd w w.heap.size v (l.map vi)) (hl:∀x∈l,Ah x) (hll:l.length≤1000000000000000) (ha:Ah a) (hb:Ah b) (hc:Ah c) (ht:Ct w):
  Calls Tryz.prog 3 #[v,.int .i64 a,.int .i64 b,.int .i64 c] w fun e w'=>e= .returned (.bool true)∧A5 w w':=by
 obtain⟨A,n,cp,rfl,hn,hcp⟩:=hr.form;have HQ:=UX (Nl w _ l hr hl hll);have HX:=UX (fun w' (g:A5 w w')=>Ks w' _ l ((hr.grew (Ua _) g).more g.size) hl hll);have HABC:=UX (UZ ha (UZ hb hc));have HT:=UX ht;clear hr hl hll ha hb hc ht hn hcp;go_enter Tryz.func3,Tryz.ntmps3;go_upto_region 2 with(first|(go_at_call 4;(with_reducible refine HQ.out.mono ?_);rintro e3 wa ⟨t1,cs1,rfl,h1,ok1,ka⟩;have h1l:=h1.loose.len;have h1o:=AQ h1.loose)|(refine sN (.tmp 9) (.tmp 13) cs1 (Ux wa 29 _) rX ?_ (hl:=h1l) (h1:=h1o) (us:=(AE 0 0));intro wb b1 k1 d1;have g1:A5 wa wb:=Uw ((Uv wa).alloc _) k1 (fun i hi e=>by omega))|fail);have G1:=ka.trans g1;have HX1:=UX (HX.out wb G1);have HT1:=UX (UZ h1 (UZ ok1 (UZ b1 (UZ g1 G1))));clear h1 ok1 b1 k1 d1 h1o ka g1 G1;go_upto_region 3 with(first|(go_at_call 5;(with_reducible refine HX1.out.mono ?_);rintro e3 wc ⟨t2,cs2,rfl,h2,ok2,kc⟩;have h2l:=h2.len;have h2o:=AQ h2)|(refine sN (.tmp 10) (.tmp 15) cs2 (Ux wc 29 _) rX ?_ (hl:=h2l) (h1:=h2o) (us:=(AE 0 0));intro wd b2 k2 d2;have g2:A5 wc wd:=Uw ((Uv wc).alloc _) k2 (fun i hi e=>by omega))|fail);have G2:=kc.trans g2;have hX1:AV wd (fun b=>b<wa.heap.size) t1 cs1:=AV.keep (S:=fun _=>False) (fun b hb=>⟨hb.2,fun h=>h,hb.2⟩) (HT1.out.2.2.2.1.trans G2) t1 cs1 HT1.out.1;have rX1:wd.rangeAt wa.heap.size 0 cs1:=(HT1.out.2.2.1.grew G2).rangeN 0 _ (by simp);have hs1:=(HT1.out.2.2.2.1.trans G2).size;have HS:=UX (IM 900 t1 (by have:=HT1.out.2.1.1;omega) (Ua _) cs1 wd (fun b=>b<wa.heap.size) a b c (fun b hb=>Ub hb hs1) hX1 HT1.out.2.1.2.2 HABC.out.1 HABC.out.2.1 HABC.out.2.2);have HT2:=UX (UZ h2 (UZ ok2 (UZ b2 (UZ g2 G2))));clear h2 ok2 b2 k2 d2 h2o kc g2 G2 hX1 hs1;go_upto_region 4 with(first|(refine lM (.tmp 9) rX1 rX ?_ (hl:=h1l))|(go_at_call 6;(with_reducible refine HS.out.mono ?_);rintro e3 we ⟨t3,cs3,rfl,h3,ok3,ke⟩;have h3l:=h3.len;have h3o:=AQ h3)|(refine sN (.tmp 11) (.tmp 20) cs3 (Ux we 29 _) rX ?_ (hl:=h3l) (h1:=h3o) (us:=(AE 0 0));intro wf b3 k3 d3;have g3:A5 we wf:=Uw ((Uv we).alloc _) k3 (fun i hi e=>by omega))|fail);have G3:=ke.trans g3;have G2f:=HT2.out.2.2.2.2.trans G3;have G1f:=HT1.out.2.2.2.2.trans G2f;have sza:=HT1.out.2.2.2.1.size;have szc:=HT2.out.2.2.2.1.size;have HG:=UX G1f;have hTT:=HT.out;have hT1:M6 wa.heap.size t1 cs1 wf:=⟨HT.out.1.grew G1f,AN.toB (B:=wf.heap.size) (Q:=C9 0 w.heap.size wa.heap.size) (fun b hb=>Ub hb.2 (HT1.out.2.2.2.1.trans G2f).size) _ _ (HT1.out.1.loose.grewQ (fun b hb=>hb.2) (HT1.out.2.2.2.1.trans G2f)),HT1.out.2.2.1.grew G2f,Aw.mono (fun _ h=>h.1) (AD t1) t1 (Ua _) HT1.out.2.1.2.2,Ue HT1.out.2.1.1 (by decide)⟩;have hT2:M6 wc.heap.size t2 cs2 wf:=⟨HT.out.1.grew G1f,AN.toB (B:=wf.heap.size) (Q:=C9 0 wb.heap.size wc.heap.size) (fun b hb=>Ub hb.2 (HT2.out.2.2.2.1.trans G3).size) _ _ (HT2.out.1.grewQ (fun b hb=>hb.2) (HT2.out.2.2.2.1.trans G3)),HT2.out.2.2.1.grew G3,HT2.out.2.1.2.2,Ue HT2.out.2.1.1 (by decide)⟩;have szw:=(HT2.out.2.2.2.1.trans ke).size;have szd:=HT1.out.2.2.2.2.size;have sze:=HT2.out.2.2.2.2.size;have hT3:M6 we.heap.size t3 cs3 wf:=⟨HT.out.1.grew G1f,AN.toB (B:=wf.heap.size) (Q:=fun b=>b<wa.heap.size∨wd.heap.size≤b∧b<we.heap.size) (fun b hb=>by have:=g3.size;have:=ke.size;rcases hb with h|h<;>omega) _ _ (h3.grewQ (fun b hb=>by have:=ke.size;rcases hb with h|h<;>omega) g3),b3,ok3.2.2,by have:=ok3.1;have:=HT1.out.2.1.1;omega⟩;have HL:=UX (fun w' (g:A5 wf w')=>LT w' ⟨hTT.1.grew (G1f.trans g),hTT.2.1.keep (G1f.trans g) (fun h=>h),hTT.2.2.keep (G1f.trans g) (fun h=>h)⟩);have HT1:=UX hT1;have HT2:=UX hT2;have HT3:=UX hT3;clear HQ HX HX1 HS HT HABC h3 ok3 b3 k3 d3 h3o ke g3 G3 G2f G1f sza szc szw szd sze hTT hT1 hT2 hT3 rX1 h1l h2l h3l;generalize wa.heap.size=z1 at*;generalize wc.heap.size=z2 at*;generalize we.heap.size=z3 at*;dsimp only[Act.put];refine lR 13 (fun w'=>A5 wf.drew w') (Uv _) fun hcl hkn=>?_
 have gd:A5 wf wf.drew:=Uy (Uv wf);have g0:A5 wf.drew wf.drew:=Uv _;refine Df [6,5,4,1] 13 _ (i:=0) rfl (by kernel_rfl) (by kernel_rfl) (by kernel_rfl) hcl hkn (by rfl) 0 rfl (by kernel_rfl) 29 (.tmp 9) rfl z1 0 rfl cs1 _ (fun w' h=>(HT1.out.grew (gd.trans h)).row) Tryz.underlying29 rfl (by rw[HT1.out.len];exact Bd) (fun _ _ _ h=>h) (by kernel_rfl) ?_;clear hcl hkn;intro hcl hkn
 try simp only[nf]
 refine Df [6,5,4,3] 13 _ (i:=2) rfl (by kernel_rfl) (by kernel_rfl) (by kernel_rfl) hcl hkn (by rfl) 0 rfl (by kernel_rfl) 29 (.tmp 9) rfl z1 0 rfl cs1 _ (fun w' h=>(HT1.out.grew (gd.trans h)).row) Tryz.underlying29 rfl (by rw[HT1.out.len];exact Bd) (fun _ _ _ h=>h) (by kernel_rfl) ?_;clear hcl hkn;intro hcl hkn
 try simp only[nf]
 refine BG hcl (i:=1) (by kernel_rfl) rfl (by kernel_rfl) (fun K hK=>?_);go_simp;(with_reducible refine((HT1.out.grew (gd.trans g0)).pf).mono ?_);rintro e3 wp1 ⟨cp1,rfl,hp1,kp1⟩;have gp1:=g0.trans kp1;refine hK _ _ (kr gp1) ?_;clear hK K;clear hcl hkn;intro hcl hkn
 try simp only[nf]
 refine BG hcl (i:=3) (by kernel_rfl) rfl (by kernel_rfl) (fun K hK=>?_);go_simp;(with_reducible refine((HT1.out.grew (gd.trans gp1)).rf).mono ?_);rintro e3 wr1 ⟨cr1,rfl,hr1,kr1⟩;have gr1:=gp1.trans kr1;refine hK _ _ (kr gr1) ?_;clear hK K;clear hcl hkn;intro hcl hkn
 try simp only[nf]
 refine BG hcl (i:=4) (by kernel_rfl) rfl (by kernel_rfl) (fun K hK=>?_);go_simp;(with_reducible refine(HT1.out.eq (hp1.grew kr1) hr1).mono ?_);rintro e3 we1 ⟨rfl,ke1⟩;have ge1:=gr1.trans ke1;refine hK _ _ (kr ge1) ?_;clear hK K;clear hcl hkn;intro hcl hkn
 try simp only[nf]
 refine BG hcl (i:=5) (by kernel_rfl) rfl (by kernel_rfl) (fun K hK=>?_);go_simp;refine hK _ _ (kr ge1) ?_;clear hK K;clear hcl hkn;intro hcl hkn
 try simp only[nf]
 refine BG hcl (i:=6) (by kernel_rfl) rfl (by kernel_rfl) (fun K hK=>?_);go_simp;refine hK _ _ (kr ge1) ?_;clear hK K;clear hcl hkn;intro hcl hkn
 try simp only[nf]
 refine Df [12,11,8] 13 _ (i:=7) rfl (by kernel_rfl) (by kernel_rfl) (by kernel_rfl) hcl hkn (by rfl) 0 rfl (by kernel_rfl) 29 (.tmp 10) rfl z2 0 rfl cs2 _ (fun w' h=>(HT2.out.grew (gd.trans h)).row) Tryz.underlying29 rfl (by rw[HT2.out.len];exact Bd) (fun _ _ _ h=>h) (by kernel_rfl) ?_;clear hcl hkn;intro hcl hkn
 try simp only[nf]
 refine Df [12,11,10] 13 _ (i:=9) rfl (by kernel_rfl) (by kernel_rfl) (by kernel_rfl) hcl hkn (by rfl) 0 rfl (by kernel_rfl) 29 (.tmp 10) rfl z2 0 rfl cs2 _ (fun w' h=>(HT2.out.grew (gd.trans h)).row) Tryz.underlying29 rfl (by rw[HT2.out.len];exact Bd) (fun _ _ _ h=>h) (by kernel_rfl) ?_;clear hcl hkn;intro hcl hkn
 try simp only[nf]
 refine BG hcl (i:=8) (by kernel_rfl) rfl (by kernel_rfl) (fun K hK=>?_);go_simp;(with_reducible refine((HT2.out.grew (gd.trans ge1)).pf).mono ?_);rintro e3 wp2 ⟨cp2,rfl,hp2,kp2⟩;have gp2:=ge1.trans kp2;refine hK _ _ (kr gp2) ?_;clear hK K;clear hcl hkn;intro hcl hkn
 try simp only[nf]
 refine BG hcl (i:=10) (by kernel_rfl) rfl (by kernel_rfl) (fun K hK=>?_);go_simp;(with_reducible refine((HT2.out.grew (gd.trans gp2)).rf).mono ?_);rintro e3 wr2 ⟨cr2,rfl,hr2,kr2⟩;have gr2:=gp2.trans kr2;refine hK _ _ (kr gr2) ?_;clear hK K;clear hcl hkn;intro hcl hkn
 try simp only[nf]
 refine BG hcl (i:=11) (by kernel_rfl) rfl (by kernel_rfl) (fun K hK=>?_);go_simp;(with_reducible refine(HT2.out.eq (hp2.grew kr2) hr2).mono ?_);rintro e3 we2 ⟨rfl,ke2⟩;have ge2:=gr2.trans ke2;refine hK _ _ (kr ge2) ?_;clear hK K;clear hcl hkn;intro hcl hkn
 try simp only[nf]
 refine BG hcl (i:=12) (by kernel_rfl) rfl (by kernel_rfl) (fun K hK=>?_);go_simp;refine hK _ _ (kr ge2) ?_;clear hK K;clear hcl hkn;intro hcl hkn
 try simp only[nf]
 refine BG hcl (i:=13) (by kernel_rfl) rfl (by kernel_rfl) (fun K hK=>?_);go_simp;refine hK _ _ kl ?_;clear hK K;clear hcl hkn;intro hcl hkn
 try simp only[nf]
 refine aD ?_;have hT3:=HT3.out.grew (gd.trans ge2);have hLv:=fun w' (g:A5 we2 w')=>HL.out w' ((gd.trans ge2).trans g)
 have hGG:=HG.out.trans (gd.trans ge2);replace HT3:=UX hT3;replace HL:=UX hLv;replace HG:=UX hGG;clear hT3 hLv hGG hcl hkn gd g0 gp1 gr1 ge1 gp2 gr2 ge2 kp1 kr1 ke1 kp2 kr2 ke2 hp1 hr1 hp2 hr2 HT1 HT2;go_upto_region 6 with fail;refine lR 8 (fun w'=>A5 we2.drew w') (Uv _) fun hcl hkn=>?_
 have gd:A5 we2 we2.drew:=Uy (Uv we2);have g0:A5 we2.drew we2.drew:=Uv _;refine Df [] 8 _ (i:=0) rfl (by kernel_rfl) (by kernel_rfl) (by kernel_rfl) hcl hkn (by rfl) 0 rfl (by kernel_rfl) 29 (.tmp 11) rfl z3 0 rfl cs3 _ (fun w' h=>(HT3.out.grew (gd.trans h)).row) Tryz.underlying29 rfl (by rw[HT3.out.len];exact Bd) (fun _ _ _ h=>h) (by kernel_rfl) ?_;clear hcl hkn;intro hcl hkn
 try simp only[nf]
 refine Df [] 8 _ (i:=2) rfl (by kernel_rfl) (by kernel_rfl) (by kernel_rfl) hcl hkn (by rfl) 0 rfl (by kernel_rfl) 29 (.tmp 11) rfl z3 0 rfl cs3 _ (fun w' h=>(HT3.out.grew (gd.trans h)).row) Tryz.underlying29 rfl (by rw[HT3.out.len];exact Bd) (fun _ _ _ h=>h) (by kernel_rfl) ?_;clear hcl hkn;intro hcl hkn
 try simp only[nf]
 refine BG hcl (i:=1) (by kernel_rfl) rfl (by kernel_rfl) (fun K hK=>?_);go_simp;(with_reducible refine((HT3.out.grew (gd.trans g0)).pf).mono ?_);rintro e3 wp3 ⟨cp3,rfl,hp3,kp3⟩;have gp3:=g0.trans kp3;refine hK _ _ (kr gp3) ?_;clear hK K;clear hcl hkn;intro hcl hkn
 try simp only[nf]
 refine BG hcl (i:=3) (by kernel_rfl) rfl (by kernel_rfl) (fun K hK=>?_);go_simp;(with_reducible refine((HT3.out.grew (gd.trans gp3)).rf).mono ?_);rintro e3 wr3 ⟨cr3,rfl,hr3,kr3⟩;have gr3:=gp3.trans kr3;refine hK _ _ (kr gr3) ?_;clear hK K;clear hcl hkn;intro hcl hkn
 try simp only[nf]
 refine BG hcl (i:=4) (by kernel_rfl) rfl (by kernel_rfl) (fun K hK=>?_);go_simp;(with_reducible refine(HT3.out.eq (hp3.grew kr3) hr3).mono ?_);rintro e3 we3 ⟨rfl,ke3⟩;have ge3:=gr3.trans ke3;refine hK _ _ (kr ge3) ?_;clear hK K;clear hcl hkn;intro hcl hkn
 try simp only[nf]
 refine BG hcl (i:=5) (by kernel_rfl) rfl (by kernel_rfl) (fun K hK=>?_);go_simp;refine hK _ _ (kr ge3) ?_;clear hK K;clear hcl hkn;intro hcl hkn
 try simp only[nf]
 refine BG hcl (i:=6) (by kernel_rfl) rfl (by kernel_rfl) (fun K hK=>?_);go_simp;(with_reducible refine((HL.out _ (gd.trans ge3))).mono ?_);rintro e3 w8 ⟨rfl,k8⟩;have g8:=ge3.trans k8;refine hK _ _ (kr g8) ?_;clear hK K;clear hcl hkn;intro hcl hkn
 try simp only[nf]
 refine BG hcl (i:=7) (by kernel_rfl) rfl (by kernel_rfl) (fun K hK=>?_);go_simp;refine hK _ _ (kr g8) ?_;clear hK K;clear hcl hkn;intro hcl hkn
 try simp only[nf]
 refine BG hcl (i:=8) (by kernel_rfl) rfl (by kernel_rfl) (fun K hK=>?_);go_simp;refine hK _ _ kl ?_;clear hK K;clear hcl hkn;intro hcl hkn
 try simp only[nf]
 refine aD ?_;go_wp2_with fail;go_ret;exact⟨rfl,HG.out.trans (gd.trans g8)⟩
end Go.Proofs.YtkclnhpofkaclaaGreatDoor
