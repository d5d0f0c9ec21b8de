/- What the card of the law stands on: MakeT, SpoilPl, SlcC, AppX, SpoilB. -/
import Derived.Test.YtkclnhpofkaclaaGreatDoorRewriteFoldP01
import Derived.Test.YtkclnhpofkaclaaGreatDoorRewriteFoldP45
import Derived.Test.YtkclnhpofkaclaaGreatDoorRewriteFoldP44
import Derived.Test.YtkclnhpofkaclaaGreatDoorRewriteFoldP15
import Derived.Test.YtkclnhpofkaclaaGreatDoorRewriteFoldP12
import Derived.Deep.Upon
import Derived.Test.YtkclnhpofkaclaaGreatDoorRewriteFoldP26
set_option maxRecDepth 100000
set_option maxHeartbeats 12800000
set_option linter.unusedVariables false
set_option linter.unusedSimpArgs false
namespace Go.Proofs.YtkclnhpofkaclaaGreatDoor
open Go.RowKit Pl
theorem AK.names {w:World} {z:Nat} {t:TypeId} {names:List ByteArray} (hb:AK w z t (names.map Value.string).toArray) (j:Nat) (cs:List Value) (hj:(names.map fun s=>[Value.string s])[j]? =some cs):w.rangeAt z (0+j*1) cs:=by
 rw[List.getElem?_map]at hj;obtain⟨s,hs,rfl⟩:=Option.map_eq_some_iff.1 hj;intro k u hk;rcases k with _|k
 ·obtain rfl:Value.string s=u:=by simpa using hk
  rw[hb.cell,Nat.mul_one,Nat.zero_add,Nat.add_zero,List.getElem?_toArray,List.getElem?_map,hs];rfl
 simp at hk
def Me (N D:Nat) (w:World) (e:Ending) (w':World):Prop:=∃(t:Ex) (cs:List Value),e= .returned (.agg cs.toArray)∧AN w' (C9 0 w.heap.size w'.heap.size) t cs∧Kf N D t∧A5 w w'
theorem Mh (w:World) (v:Value) (l:List Int) (vn:Value) (names:List ByteArray) (hr:Rd w w.heap.size v (l.map vi)) (hl:∀x∈l,Ah x) (hll:l.length≤1000000000000000)
  (hnm:Bs w w.heap.size 1 vn (names.map fun s=>[Value.string s])) (hn1:0<names.length∧names.length≤1000) (hn2:∀s∈names,Fz s):
  Calls Tryz.prog 12 #[v,vn,.int .i64 4096] w (Me 31 5 w):=by
 obtain⟨A,n,c,rfl,hn,hc⟩:=hr.form;obtain⟨An,nn,cn,rfl⟩:∃A n c,vn= .slice A n c:=by obtain⟨A,c,h, -⟩:=hnm;exact⟨_,_,_,h⟩
 have hbr:=Ux w 29 (AE 0 0).toArray;have hG:=(Uv w).alloc (.cells (AE 0 0).toArray 29);have hs:(w.alloc (.cells (AE 0 0).toArray 29)).heap.size=w.heap.size+1:=by simp
 have HR:=UX (UZ hr (UZ hl hll));have HN:=UX (UZ hnm (UZ hn1 hn2));clear hr hl hll hn hc hnm hn1 hn2;go_enter Tryz.func12,Tryz.ntmps12;go_upto_region 1 with fail;change Code.wp _ _ _ _ (w.alloc (.cells (AE 0 0).toArray 29));generalize w.alloc (.cells (AE 0 0).toArray 29)=w1 at*;have HS:=UX hs;clear hs;go_upto_region 2 with fail;have hbg:=Ux w1 57 #[.slice A n c,.int .i64 0,.slice An nn cn,.int .i64 (max 1 4096)];have hg2:=(Uv w1).alloc (.cells #[.slice A n c,.int .i64 0,.slice An nn cn,.int .i64 (max 1 4096)] 57);generalize w1.alloc (.cells #[.slice A n c,.int .i64 0,.slice An nn cn,.int .i64 (max 1 4096)] 57)=w2 at*;have hmx:(max 1 4096:Int)=((4096:Nat):Int):=by decide
 rw[hmx]at hbg;have HGS:=UX (show F7 w2 w1.heap.size w.heap.size ⟨.slice A n c,l,.slice An nn cn,names,4096⟩ 0 from⟨hbg,HR.out.1.grew (Ua _) (hG.trans hg2),by have:=HS.out;omega,HR.out.2.1,HR.out.2.2,HN.out.1.keep (Ua _) (Ua _) (hG.trans hg2) (fun _ _ h=>h)⟩);have HZ:=UX (show w1.heap.size=w.heap.size+1∧w1.heap.size<w2.heap.size from⟨HS.out,hbg.lt⟩);have hb2:=hbr.grew hg2;have HG:=UX (hG.trans hg2);generalize w1.heap.size=z at*;have HEx:=UX (show Calls Tryz.prog 28 #[.pointer (some ⟨z,0,none⟩),.int .i64 4] w2 (Dz z w.heap.size ⟨.slice A n c,l,.slice An nn cn,names,4096⟩ w2.heap.size 31 5 0 (c7 3) w2)from MH 3 4 (by decide) (by decide) (by decide) w2 z w.heap.size ⟨.slice A n c,l,.slice An nn cn,names,4096⟩ 0 HGS.out ⟨HN.out.2.1.1,HN.out.2.1.2,HN.out.2.2,by show 1≤4096;omega,by show 4096≤50000;omega⟩ (by decide));clear hbr hG hbg hg2 hmx;go_wp2_with(first|(go_at_call 28;(with_reducible refine HEx.out.mono ?_);rintro e4 w4 ⟨t,U,i',rfl,hU,hgd,hgs,hi',k4⟩;have hU1:=AQ hU;have hUl:U.length=11:=(by obtain⟨a,b,c,h, -⟩:=hU.open_;rw[h];rfl);have HU:=UX hU;have HUl:=UX hUl;have HGd:=UX (UZ hgd k4);have hb4:=hb2.keep k4 (by have:=HZ.out;omega);clear hU hUl hgd hgs hi' k4)|(refine sN (.tmp 6) (.tmp 15) U hb4 rX ?_ (hl:=HUl.out) (h1:=hU1);intro w8 hb8 k8 d8)|fail);refine rO rX hb8 ?_ (hl:=HUl.out);have hz:=HZ.out;exact⟨t,U,rfl,AN.keep (S:=fun b=>b=w.heap.size) (fun b hb=>⟨hb.2,by have:=hb.1;omega,.inr (by have:=hb.1;omega),Ub hb.2 k8.size⟩) k8 _ _ HU.out,HGd.out.1,Uw (Uw HG.out HGd.out.2 fun b hb e=>by omega) k8 fun b hb e=>by omega⟩
def I0:List ByteArray:=[⟨#[99,112,117]⟩,⟨#[109,101,109]⟩,⟨#[97]⟩,⟨#[108,97,115,116]⟩,⟨#[98,121]⟩,⟨#[120,95,49]⟩]
theorem Lv:∀s∈I0,Fz s:=by
 intro s hs;simp only[I0,List.mem_cons,List.not_mem_nil,or_false]at hs;rcases hs with rfl|rfl|rfl|rfl|rfl|rfl<;>exact⟨by unfold Ib;decide,by decide⟩
theorem Ks (w:World) (v:Value) (l:List Int) (hr:Rd w w.heap.size v (l.map vi)) (hl:∀x∈l,Ah x) (hll:l.length≤1000000000000000):
  Calls Tryz.prog 5 #[v] w (Me 31 5 w):=by
 obtain⟨A,n,c,rfl,hn,hc⟩:=hr.form;have HR:=UX (UZ hr (UZ hl hll));clear hr hl hll hn hc;have HM:=UX (fun(w':World) (zn:Nat) (k:A5 w w') (hb:AK w' zn 9 #[.string ⟨#[99,112,117]⟩,.string ⟨#[109,101,109]⟩,.string ⟨#[97]⟩,.string ⟨#[108,97,115,116]⟩,.string ⟨#[98,121]⟩,.string ⟨#[120,95,49]⟩])=>show Calls Tryz.prog 12 #[.slice A n c,.slice (some ⟨zn,0,none⟩) 6 6,.int .i64 4096] w' (Me 31 5 w')from Mh w' (.slice A n c) l _ I0 ((HR.out.1.grew (Ua _) k).more k.size) HR.out.2.1 HR.out.2.2 ⟨_,6,rfl,Ua _,fun _=>⟨zn,0,rfl,hb.lt,fun j cs hj=>AK.names (names:=I0) hb j cs hj⟩⟩ (by decide) Lv);have hbr:=Ux w 29 (AE 0 0).toArray;have hG:=(Uv w).alloc (.cells (AE 0 0).toArray 29);have hs:(w.alloc (.cells (AE 0 0).toArray 29)).heap.size=w.heap.size+1:=by simp
 go_enter Tryz.func5,Tryz.ntmps5;go_upto_region 1 with fail;change Code.wp _ _ _ _ (w.alloc (.cells (AE 0 0).toArray 29));generalize w.alloc (.cells (AE 0 0).toArray 29)=w1 at*;have HG:=UX hG;have HB:=UX hbr;have HS:=UX hs;clear hG hbr hs;go_wp2_with(first|(go_at_call 12;(with_reducible refine(HM.out (w1.alloc (.cells #[.string ⟨#[99,112,117]⟩,.string ⟨#[109,101,109]⟩,.string ⟨#[97]⟩,.string ⟨#[108,97,115,116]⟩,.string ⟨#[98,121]⟩,.string ⟨#[120,95,49]⟩] 9)) w1.heap.size (HG.out.alloc _) (Ux w1 _ _)).mono ?_);rintro e4 w4 ⟨t,U,rfl,hU,hok,k4⟩;have hU1:=AQ hU;have hUl:U.length=11:=(by obtain⟨a,b,c,h, -⟩:=hU.open_;rw[h];rfl);have HU:=UX hU;have HUl:=UX hUl;have HK:=UX (UZ hok (((Uv w1).alloc _).trans k4));have hb4:=(HB.out.grew ((Uv w1).alloc _)).grew k4;clear hU hUl hok k4)|(refine sN (.tmp 2) (.tmp 5) U hb4 rX ?_ (hl:=HUl.out) (h1:=hU1);intro w8 hb8 k8 d8)|fail);refine rO rX hb8 ?_ (hl:=HUl.out);have hz:=HS.out;exact⟨t,U,rfl,AN.keep (S:=fun b=>b=w.heap.size) (fun b hb=>⟨hb.2,by have:=hb.1;simp at this;omega,.inr (by have:=hb.1;simp at this;omega),Ub hb.2 k8.size⟩) k8 _ _ HU.out,HK.out.1,Uw (HG.out.trans HK.out.2) k8 fun b hb e=>by omega⟩
theorem Ku (a b:List Ex):AO (a++b)=AO a+AO b:=by
 induction a with
 |nil=>simp[AO]
 |cons x xs ih=>rw[List.cons_append,AO,AO,ih,Uu]
theorem LH (a b:List Ex):AY (a++b)=max (AY a) (AY b):=by
 induction a with
 |nil=>simp[AY]
 |cons x xs ih=>rw[List.cons_append,AY,AY,ih];omega
theorem DN (e:Ex):AD e=1+AO e.kids:=by cases e;rw[AD];rfl
theorem DO (e:Ex):Ae e=AY e.kids+1:=by cases e;rw[Ae];rfl
theorem RC:Kf 1 1 (Ay 0 1):=by
 refine⟨Ua _,Ua _,Aa.2 ⟨⟨?_,FW 0 1⟩,fun k hk=>nomatch hk⟩⟩;have z0:Ah 0:=Bt.1;exact⟨z0,z0,z0,z0,z0,z0,by unfold Ah;show _≤(1:Int)∧(1:Int)≤_;omega⟩
theorem FK {t t':Ex} (h:Aw B1 t) (hn:B1 t') (hk:t'.kids=t.kids∨t'.kids=t.kids++[Ay 0 1]):Kf (AD t+1) (Ae t+1) t':=by
 have h1:=DN t;have h2:=DO t;have l0:=RC;rcases hk with hk|hk
 ·refine⟨by rw[DN,hk];omega,by rw[DO,hk];omega,Aa.2 ⟨hn,fun k hm=>?_⟩⟩;rw[hk]at hm;exact h.kid hm
 have e1:AO [Ay 0 1]=1:=by rw[AO,AO];rfl
 have e2:AY [Ay 0 1]=1:=by rw[AY,AY];rfl
 refine⟨by rw[DN,hk,Ku,e1];omega,by rw[DO,hk,LH,e2];omega,Aa.2 ⟨hn,fun k hm=>?_⟩⟩;rw[hk]at hm;rcases List.mem_append.1 hm with hm|hm
 ·exact h.kid hm
 obtain rfl:=Ug.1 hm;exact l0.2.2
theorem Hs:∀{es:List Ex} {j:Nat} {e x:Ex},es[j]? =some e→AO (es.set j x)+AD e=AO es+AD x
 |e::es,0,e',x,h=>by
  obtain rfl:e=e':=by simpa using h
  rw[List.set_cons_zero,AO,AO];omega
 |e::es,j+1,e',x,h=>by
  rw[List.set_cons_succ,AO,AO];have:=Hs (es:=es) (j:=j) (e:=e') (x:=x) (by simpa using h);omega
theorem Hh:∀{es:List Ex} {j:Nat} {x:Ex},AY (es.set j x)≤max (AY es) (Ae x)
 |[],j,x=>by simp[AY]
 |e::es,0,x=>by
  rw[List.set_cons_zero,AY,AY];omega
 |e::es,j+1,x=>by
  rw[List.set_cons_succ,AY,AY];have:=Hh (es:=es) (j:=j) (x:=x);omega
theorem Hg:∀{es:List Ex} {j:Nat} {e:Ex},es[j]? =some e→Ae e≤AY es
 |e::es,0,e',h=>by
  obtain rfl:e=e':=by simpa using h
  rw[AY];omega
 |e::es,j+1,e',h=>by
  rw[AY];have:=Hg (es:=es) (j:=j) (e:=e') (by simpa using h);omega
theorem Ru {t e x:Ex} {j:Nat} (h:Aw B1 t) (hj:t.kids[j]? =some e) (hx:Kf (AD e+1) (Ae e+1) x):Kf (AD t+1) (Ae t+1) (t.withKids (t.kids.set j x)):=by
 have h1:=DN t;have h2:=DO t;have h3:=Hs (x:=x) hj;have h4:=Hh (es:=t.kids) (j:=j) (x:=x);have h5:=Hg hj;have hx1:=hx.1;have hx2:=hx.2.1;refine⟨by rw[DN,Bq];omega,by rw[DO,Bq];omega,Aa.2 ⟨?_,fun k hm=>?_⟩⟩
 ·have:=h.top;cases t;exact this
 rw[Bq]at hm;rcases List.mem_or_eq_of_mem_set hm with hm|rfl
 ·exact h.kid hm
 exact hx.2.2
section
variable {w:World}
variable {B:Nat} {cs:List Clm} {ops:Array Oper} {rest:List Oper} {o:Oper} {a:Act} {Q:Exit→Act→World→Prop}
end
section
variable {P:Program} {t e:TypeId} {sz bytes:Nat} {z:Value} {w:World}
theorem Bs.flat {B n c:Nat} {ad:Addr} {rows:List (List Value)} (h:Bs w B sz (.slice (some ad) n c) rows) (hev:E4 sz rows) (hz:0<sz):∀j u,rows.flatten[j]? =some u→w.cell? (ad.add j)=some u:=by
 intro j u hu;obtain⟨A,c',hv,_,hx⟩:=h;injection hv with hA;have hj:j<rows.flatten.length:=(Uh.1 hu).1;have hlen:=BL hev;have hpos:0<rows.length:=by
  rcases rows with _|⟨y,ys⟩
  ·simp at hj
  simp
 obtain⟨b,o,h,_,hcell⟩:=hx hpos;rw[h]at hA;injection hA with hA;subst hA;have hq:j/sz<rows.length:=by
  rw[Nat.div_lt_iff_lt_mul hz];omega
 have hjd:j/sz*sz+j%sz=j:=by rw[Up];exact Nat.div_add_mod j sz
 have hk:j%sz<(rows[j/sz]).length:=by rw[hev _ (List.getElem_mem hq)];exact Nat.mod_lt _ hz
 have hf:=E0 hev (Uc hq) (Uc hk);rw[hjd,hu]at hf;have hh:=hcell (j/sz) _ (Uc hq) (j%sz) _ (Uc hk);have e1:(⟨b,o,none⟩:Addr).add j=⟨b,o+j/sz*sz+j%sz,none⟩:=by
  rw[Uu,hjd];unfold Addr.add;split<;>simp_all
 rw[e1,hh];exact hf.symm
theorem Np (T:Kg P t e sz bytes z) (ty:TypeId) {B:Nat} {A:Option Addr} {n:Nat} {rows:List (List Value)} (hr:Bs w B sz (.slice A n n) rows) (hev:E4 sz rows) (g c:Nat) (d:List Value) (t':TypeId) (hc1:1≤c) (hb:AK w g t' d.toArray) (hd:d.length=sz) (h1:∀u∈d,u.oneCell'=true) (hn:rows.length≤1000000):
  ∃cap,(Builtin.append_ #[t,t] ty #[.slice A n n,.slice (some ⟨g,0,none⟩) 1 c]).run P w= .ok (.slice (some ⟨w.heap.size,0,none⟩) (rows.length+1) cap) (w.drew.alloc (.cells ((rows.flatten++d).toArray++Builtin.zeroCells z.cells (cap-(rows.length+1))) e))∧rows.length+1≤cap∧cap≤maxLen:=by
 obtain⟨i,hi,hz,hs,hby⟩:=info_parts T.info;have hr0:=hr;obtain⟨A1,c1,hv1,hc1',hx1⟩:=hr;injection hv1 with e1 e2 e3;subst e1 e2;have hsrc:Src P i.size t (.slice (some ⟨g,0,none⟩) 1 c) 1 d w:=
  Src.ofSlice w T.under _ 1 c d (by rw[hd,hs,Nat.one_mul]) (fun j u hu=>by rw[Lo,hb.cell,Nat.zero_add];simpa using hu) h1
 have hold:(Builtin.firstCells i.size rows.length (.slice A rows.length rows.length)).run P w.drew= .ok rows.flatten.toArray w.drew:=by
  rcases A with _|ad
  ·have h0:rows=[]:=by
    rcases rows with _|⟨y,ys⟩
    ·rfl
    obtain⟨b,o,h,_⟩:=hx1 (by simp);cases h
   subst h0;exact run_firstCells_none _ _ _ _ _
  exact run_firstCells_some w.drew i.size rows.length ad rows.length rows.length rows.flatten (by rw[BL hev,hs]) (fun j u hu=>Bs.flat hr0 hev T.pos j u hu)
 have hsm:=T.small;have hfit:Builtin.nextslicecap (rows.length+1) rows.length*i.bytes≤281474976710656:=growslice_fits (by omega) (by rw[hby];exact Ue (Nat.mul_le_mul (show rows.length+1≤1000001 by omega) hsm) (by omega));have hrun:=run_append_grow_src w t t ty e i z T.under hi hz A rows.length rows.length rows.flatten hold _ 1 d hsrc (by omega) (by omega) hfit;exact⟨_,hrun,grownCap_ge w _ _ _,grownCap_le_maxLen w _ _ _ (by unfold maxLen;omega)⟩
theorem MY (T:Kg P t e sz bytes z) {rows:List (List Value)} (hev:E4 sz rows) {d:List Value} (hd:d.length=sz) {cap:Nat} (h2:rows.length+1≤cap) (h3:cap≤maxLen):
  AX (w.drew.alloc (.cells ((rows.flatten++d).toArray++Builtin.zeroCells z.cells (cap-(rows.length+1))) e)) w.heap.size e sz (.slice (some ⟨w.heap.size,0,none⟩) (rows.length+1) cap) (rows++[d]):=by
 have hev':E4 sz (rows++[d]):=fun r hr=>by
  rcases List.mem_append.1 hr with hr|hr
  ·exact hev r hr
  obtain rfl:=Ug.1 hr;exact hd
 have hfl:(rows++[d]).flatten=rows.flatten++d:=by simp
 have hl:(rows++[d]).length=rows.length+1:=by simp
 refine⟨?_,hev'⟩;rw[hl];refine⟨by rw[BL hev',hl],.inr ⟨w.heap.size,cap,_,rfl,Ua _,heap_alloc_new w.drew _,h2,h3,?_,?_⟩⟩
 ·simp only[Array.size_append,List.size_toArray,Us,size_zeroCells,T.cells,BL hev,hd];rw[show rows.length*sz+sz=(rows.length+1)*sz by rw[Nat.succ_mul],←Nat.add_mul];congr 1;omega
 simp only[Array.toList_append];rw[hfl,show(rows.length+1)*sz=(rows.flatten++d).length by rw[Us,BL hev,hd,Nat.succ_mul]];exact List.take_left
def JC (w:World) (B base:Nat) (e:TypeId) (sz:Nat) (v:Value) (rows:List (List Value)):Prop:=AX w base e sz v rows∨(∃A,v= .slice A rows.length rows.length∧Bs w B sz v rows∧E4 sz rows)
theorem QE (T:Kg P t e sz bytes z) (ty:TypeId) {B base:Nat} {v:Value} {rows:List (List Value)} (hv:JC w B base e sz v rows) (g c:Nat) (d:List Value) (t':TypeId) (hc1:1≤c) (hb:AK w g t' d.toArray) (hd:d.length=sz) (h1:∀u∈d,u.oneCell'=true) (hn:rows.length≤1000000) (hbase:base≤w.heap.size):
  ∃r n cap w',(Builtin.append_ #[t,t] ty #[v,.slice (some ⟨g,0,none⟩) 1 c]).run P w= .ok (.slice (some ⟨r,0,none⟩) n cap) w'∧AX w' base e sz (.slice (some ⟨r,0,none⟩) n cap) (rows++[d])∧A4 (fun i=>base≤i) w w':=by
 rcases hv with hv|⟨A,rfl,hr,hev⟩
 ·have hr:Bs w w.heap.size sz (.slice (some ⟨g,0,none⟩) 1 c) [d]:=by
   refine⟨_,c,rfl,hc1,fun _=>⟨_,_,rfl,hb.lt,fun j cs hj k u hk=>?_⟩⟩;obtain⟨rfl,rfl⟩:j=0∧d=cs:=by
    cases j with
    |zero=>exact⟨rfl,by simpa using hj⟩
    |succ j=>simp at hj
   rw[Nat.zero_mul,Nat.add_zero,Nat.zero_add,hb.cell];simpa using hk
  obtain⟨v',w',hrun,h2,h3,h4⟩:=EK (P:=P) T ty hv hr (by intro r hr;obtain rfl:=Ug.1 hr;exact hd) (by intro r hr;obtain rfl:=Ug.1 hr;exact h1) (by simp;omega) hbase;rcases h2.form with⟨_,hh⟩|⟨g',cap',cur,rfl,hb',hbox,_⟩
  ·simp at hh
  exact⟨_,_,_,w',hrun,h2,Uw (Uz _ w) h3 fun i _ e=>(hv.lt i e).1⟩
 obtain⟨cap,hrun,h2,h3⟩:=Np (P:=P) T ty hr hev g c d t' hc1 hb hd h1 hn;exact⟨_,_,cap,_,hrun,(MY T hev hd h2 h3).base_le hbase,A4.alloc (Uy (Uz _ w)) _⟩
theorem KE {o:Oper} {a:Act} {K:Act→World→Prop} {Q:Exit→Act→World→Prop} (T:Kg P t e sz bytes z) (s x:Operand)
  (ho:o.op= .call { callee:= .builtin .append,args:=#[s,x],argTypes:=#[t,t] }) {B base:Nat} {v:Value} {rows:List (List Value)}
  (hs:a.eval s=v) (hv:JC w B base e sz v rows) (g c:Nat) (d:List Value) (t':TypeId) (hx:a.eval x= .slice (some ⟨g,0,none⟩) 1 c) (hc1:1≤c) (hb:AK w g t' d.toArray) (hd:d.length=sz) (h1:∀u∈d,u.oneCell'=true)
  (hn:rows.length≤1000000) (hbase:base≤w.heap.size)
  (h:∀r n cap w',AX w' base e sz (.slice (some ⟨r,0,none⟩) n cap) (rows++[d])→A4 (fun i=>base≤i) w w'→K (a.put o.dst (.slice (some ⟨r,0,none⟩) n cap)) w'):o.wp P a w K Q:=by
 obtain⟨r,n,cap,w',hrun,h2,h3⟩:=QE (P:=P) T o.type hv g c d t' hc1 hb hd h1 hn hbase;unfold Oper.wp execOp;simp only[ho,resolve,invoke,builtin,Sem.run_bind,Sem.run_pure,Result.andThen_ok,List.map_toArray,List.map_cons,List.map_nil,hs,hx,hrun];exact h r n cap w' h2 h3
theorem Lh {ops:Array Oper} {rest:List Oper} {o:Oper} {a:Act} {Q:Exit→Act→World→Prop} (T:Kg P t e sz bytes z) (hgd:o.guard=none) (s x:Operand)
  (ho:o.op= .call { callee:= .builtin .append,args:=#[s,x],argTypes:=#[t,t] }) {B base:Nat} {v:Value} {rows:List (List Value)}
  (hs:a.eval s=v) (hv:JC w B base e sz v rows) (g c:Nat) (d:List Value) (t':TypeId) (hx:a.eval x= .slice (some ⟨g,0,none⟩) 1 c) (hc1:1≤c) (hb:AK w g t' d.toArray) (hd:d.length=sz) (h1:∀u∈d,u.oneCell'=true)
  (hn:rows.length≤1000000) (hbase:base≤w.heap.size)
  (h:∀r n cap w',AX w' base e sz (.slice (some ⟨r,0,none⟩) n cap) (rows++[d])→A4 (fun i=>base≤i) w w'→wpList P ops Q rest (a.put o.dst (.slice (some ⟨r,0,none⟩) n cap)) w'):wpList P ops Q (o::rest) a w:=
 wpList_plain hgd fun K hK=>KE T s x ho hs hv g c d t' hx hc1 hb hd h1 hn hbase fun r n cap w' h2 h3=>hK _ _ (h r n cap w' h2 h3)
end
theorem Bp.rows {w:World} {Q:Nat→Prop} {b:Nat}:∀{es:List Ex} {o:Nat},Bp w Q b o es→∃rows:List (List Value),rows.length=es.length∧(∀j cs,rows[j]? =some cs→w.rangeAt b (o+j*11) cs)∧(∀(j:Nat) (e:Ex) (cs:List Value),es[j]? =some e→rows[j]? =some cs→AV w Q e cs)
 |[],_,_=>⟨[],rfl,fun j cs h=>by simp at h,fun j e cs h=>by simp at h⟩
 |e::es,o,h=>by
  unfold Bp at h;obtain⟨⟨cs0,h1,h2⟩,h3⟩:=h;obtain⟨rows,hl,hr,he⟩:=Bp.rows h3;refine⟨cs0::rows,by simp[hl],fun j cs hj=>?_,fun j e' cs hj hc=>?_⟩
  ·rcases j with _|j
   ·obtain rfl:cs0=cs:=by simpa using hj
    simpa using h1
   have:=hr j cs (by simpa using hj);rwa[show o+(j+1)*11=o+11+j*11 by omega]
  rcases j with _|j
  ·obtain rfl:cs0=cs:=by simpa using hc
   obtain rfl:e=e':=by simpa using hj
   exact h2
  exact he j e' cs (by simpa using hj) (by simpa using hc)
theorem AV.len {w:World} {Q:Nat→Prop} {e:Ex} {cs:List Value} (h:AV w Q e cs):cs.length=11:=by
 obtain⟨a,b,c,rfl, -⟩:=h.open_;rfl
theorem DP.rows {w:World} {Q:Nat→Prop} {B:Nat} {v:Value} {es:List Ex} (h:DP w Q v es) (hq:∀b,Q b→b<B):∃rows:List (List Value),rows.length=es.length∧E4 11 rows∧(∀r∈rows,∀u∈r,u.oneCell'=true)∧Bs w B 11 v rows∧(∀(j:Nat) (e:Ex) (cs:List Value),es[j]? =some e→rows[j]? =some cs→AV w Q e cs):=by
 obtain⟨A,c,rfl,hc,hx⟩:=h;by_cases h0:0<es.length
 ·obtain⟨b,o,rfl,hb,hks⟩:=hx h0;obtain⟨rows,hl,hr,he⟩:=hks.rows;have hrow:∀r∈rows,∃e,AV w Q e r:=fun r hm=>by
   obtain⟨j,hj,rfl⟩:=List.getElem_of_mem hm;exact⟨es[j],he j _ _ (Uc (by omega)) (Uc hj)⟩
  refine⟨rows,hl,fun r hm=>?_,fun r hm=>?_,⟨_,c,by rw[hl],by omega,fun _=>⟨b,o,rfl,hq b hb,hr⟩⟩,he⟩
  ·obtain⟨e,h⟩:=hrow r hm;exact h.len
  obtain⟨e,h⟩:=hrow r hm;exact AP h
 have h1:es=[]:=List.eq_nil_of_length_eq_zero (by omega);subst h1;exact⟨[],rfl,(fun r h=>nomatch h),(fun r h=>nomatch h),⟨A,c,rfl,hc.1,fun h=>absurd h (by simp)⟩,fun j e cs h=>by simp at h⟩
theorem JC.keep {w w':World} {B base sz:Nat} {e:TypeId} {v:Value} {rows:List (List Value)} {S:Nat→Prop} (h:JC w B base e sz v rows) (hB:B≤w.heap.size) (k:A4 S w w') (h1:∀i,i<B→¬S i) (h2:∀i,base≤i→¬S i):JC w' B base e sz v rows:=by
 rcases h with h|⟨A,rfl,hr,hev⟩
 ·exact .inl (h.keep k fun i hi=>h2 i (h.lt i hi).1)
 exact .inr ⟨A,rfl,hr.keep hB (Ua _) k h1,hev⟩
def Dq (N D:Nat) (w:World) (Q:Nat→Prop) (e:Ending) (w':World):Prop:=∃(t:Ex) (cs:List Value),e= .returned (.agg cs.toArray)∧AN w' (fun b=>Q b∨w.heap.size≤b∧b<w'.heap.size) t cs∧Kf N D t∧A5 w w'
def QC (w0:World) (Q:Nat→Prop) (w:World) (b:Nat):Prop:=Q b∨w0.heap.size+2≤b∧b<w.heap.size
section
variable {w w2 w8:World} {Q:Nat→Prop}
theorem Es {sz:Nat} {v:Value} {rows:List (List Value)} (h:Bv w Q sz v rows) (hQ:∀b,Q b→b<w.heap.size) (k:A4 (fun i=>w.heap.size≤i) w w2):BE w2 (QC w Q w2) sz v rows:=
 (h.keep (S:=fun i=>w.heap.size≤i) (Q':=QC w Q w2) (fun b hb=>⟨hQ b hb,by have:=hQ b hb;omega,.inl hb⟩) k).loose
theorem Kx {v:Value} {es:List Ex} (h:DP w Q v es) (hQ:∀b,Q b→b<w.heap.size) (k:A4 (fun i=>w.heap.size≤i) w w2):Ca w2 (QC w Q w2) v es:=
 (h.keep (S:=fun i=>w.heap.size≤i) (Q':=QC w Q w2) (fun b hb=>⟨hQ b hb,by have:=hQ b hb;omega,.inl hb⟩) k).loose
theorem Pa {sz:Nat} {t:TypeId} {v:Value} {rows:List (List Value)} (h:AX w2 (w.heap.size+2) t sz v rows):BE w2 (QC w Q w2) sz v rows:=
 h.own.keep (S:=fun _=>False) (fun b hb=>⟨(h.lt b hb).2,fun h=>h,.inr (h.lt b hb)⟩) (Uv w2)
theorem G9 {N D:Nat} {t':Ex} {vm vb vk:Value} (hm:BE w2 (QC w Q w2) 3 vm (t'.ms.map AL)) (hb:BE w2 (QC w Q w2) 1 vb (t'.bys.map fun s=>[Value.string s])) (hk:Ca w2 (QC w Q w2) vk t'.kids) (ok:Kf N D t')
  (hQ:∀b,Q b→b<w.heap.size) (k2:A4 (fun i=>w.heap.size≤i) w w2) (k8:A4 (fun i=>i=w.heap.size+1) w2 w8):Dq N D w Q (.returned (.agg (A8 t' vm vb vk).toArray)) w8:=by
 have s2:=k2.size;have s8:=k8.size;refine⟨t',_,rfl,AN.keep (S:=fun i=>i=w.heap.size+1) (fun b hb=>?_) k8 _ _ (AN.mk_ hm hb hk),ok,Uw (Uw (Uz _ w) k2 fun i hi e=>by omega) k8 fun i hi e=>by omega⟩;rcases hb with hb|⟨h1,h2⟩
 ·have:=hQ b hb;exact⟨by omega,by omega,.inl hb⟩
 exact⟨h2,by omega,.inr ⟨by omega,by omega⟩⟩
theorem Kn (ms:List Mt):E4 3 (ms.map AL):=fun r h=>by
 obtain⟨m, -,rfl⟩:=List.mem_map.1 h;rfl
theorem PS (bs:List ByteArray):E4 1 (bs.map fun s=>[Value.string s]):=fun r h=>by
 obtain⟨m, -,rfl⟩:=List.mem_map.1 h;rfl
end
end Go.Proofs.YtkclnhpofkaclaaGreatDoor
