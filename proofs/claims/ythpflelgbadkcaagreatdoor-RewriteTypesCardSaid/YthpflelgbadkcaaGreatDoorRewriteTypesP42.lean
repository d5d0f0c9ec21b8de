/- What the card of the law stands on: Compile, Gs, TSel. -/
import Derived.Test.YthpflelgbadkcaaGreatDoorRewriteTypesP01
import Derived.Test.YthpflelgbadkcaaGreatDoorRewriteTypesP41
import Derived.Test.YthpflelgbadkcaaGreatDoorRewriteTypesP17
import Derived.Test.YthpflelgbadkcaaGreatDoorRewriteTypesP10
import Derived.Test.YthpflelgbadkcaaGreatDoorRewriteTypesP19
import Derived.Great.BuildSlice
import Derived.Test.YthpflelgbadkcaaGreatDoorRewriteTypesP09
import Derived.ChangeKeysEq
import Derived.Laws.StructEq
set_option maxRecDepth 100000
set_option maxHeartbeats 12800000
set_option linter.unusedVariables false
set_option linter.unusedSimpArgs false
namespace Go.Proofs.YthpflelgbadkcaaGreatDoor
open Go.RowKit Go.Shelf Pl
attribute [local go_sem] Oper.semAt_some
theorem T0 {P:Program} {a:Act} {o:Oper} (T:TypeId) (l:Array (Nat×Operand)) (ho:o.op= .build T l) (v:Value) (l2:Array (Nat×Value)) (hb:∀w,(Instr.build T l2).run P w= .ok v w) (hl:(l.map fun(i,x)=>(i,a.eval x))=l2):∀w,(execOp a.eval o).run P w= .ok (.value v) w:=fun w=>by
 unfold execOp;simp only[ho,hl,Sem.run_bind,Sem.run_pure,hb,Result.andThen_ok]
theorem Ks {P:Program} {t e:TypeId} {sz bytes:Nat} {z:Value} {w:World} {base:Nat} {v:Value} {rows:List (List Value)} {cs:List Value} {b:Nat} {t':TypeId} {o:Oper} {a:Act} {K:Act→World→Prop} {Q:Exit→Act→World→Prop} (T:My P t e sz bytes z) (s x:Operand)
  (ho:o.op= .call { callee:= .builtin .append,args:=#[s,x],argTypes:=#[t,t] })
  (hs:a.eval s=v) (hown:B8 w base e sz v rows) (hx:a.eval x= .slice (some ⟨b,0,none⟩) 1 1) (hb:AR w b t' cs.toArray) (h1:∀u∈cs,u.oneCell'=true) (hl:cs.length=sz)
  (hn:rows.length+1≤1099511627) (hbase:base≤w.heap.size)
  (h:∀v' w',B8 w' base e sz v' (rows++[cs])→AA (fun i=>v.ownBlock=some i) w w'→(v'.ownBlock=v.ownBlock∨v'.ownBlock=some w.heap.size)→K (a.put o.dst v') w'):Oper.wp P o a w K Q:=by
 have hr:Cg w w.heap.size sz (.slice (some ⟨b,0,none⟩) 1 1) [cs]:=⟨_,1,rfl,V6 _,fun _=>⟨b,0,rfl,hb.lt,fun j r hj=>by
  rcases j with _|j
  ·obtain rfl:cs=r:=by simpa using hj
   rw[Nat.zero_mul];exact hb.rangeN 0 _ (by simp)
  simp at hj⟩⟩
 obtain⟨v',w',hrun,h2,h3,h4⟩:=Hq (P:=P) T o.type hown hr (fun r hr=>by obtain rfl:=VF.1 hr;exact hl) (fun r hr=>by obtain rfl:=VF.1 hr;exact h1) hn hbase;unfold Oper.wp execOp;simp only[ho,resolve,invoke,builtin,Sem.run_bind,Sem.run_pure,Result.andThen_ok,List.map_toArray,List.map_cons,List.map_nil,hs,hx,hrun];exact h v' w' h2 h3 h4
def GZ {α:Type} (R:World→(Nat→Prop)→α→List Value→Prop) (sz:Nat) (w:World) (Q:Nat→Prop) (v:Value) (es:List α):Prop:=
 ∃A c,v= .slice A es.length c∧es.length≤c∧(0<es.length→∃b o,A=some ⟨b,o,none⟩∧Q b∧∀j e,es[j]? =some e→∃cs,w.rangeAt b (o+j*sz) cs∧R w Q e cs)
section
variable {α:Type} {R:World→(Nat→Prop)→α→List Value→Prop} {sz:Nat} {w w':World} {Q Q':Nat→Prop} {v:Value} {es:List α}
theorem GZ.keep {S:Nat→Prop} (hR:KC R) (h:GZ R sz w Q v es) (hq:∀b,Q b→b<w.heap.size∧¬S b∧Q' b) (hk:AA S w w'):GZ R sz w' Q' v es:=by
 obtain⟨A,c,hv,hc,hx⟩:=h;refine⟨A,c,hv,hc,fun hn=>?_⟩;obtain⟨b,o,e,hb,hks⟩:=hx hn;refine⟨b,o,e,(hq _ hb).2.2,fun j e' hj=>?_⟩;obtain⟨cs,h1,h2⟩:=hks j e' hj;exact⟨cs,AU h1 (hq _ hb).1 hk (hq _ hb).2.1,hR _ _ _ _ S _ _ h2 hq hk⟩
theorem GZ.slice (h:GZ R sz w Q v es):∃A n c,v= .slice A n c∧n=es.length∧n≤c:=by
 obtain⟨A,c,rfl,hc,_⟩:=h;exact⟨A,_,c,rfl,rfl,hc⟩
theorem GZ.at_ {A:Option Addr} {n c j:Nat} {e:α} (h:GZ R sz w Q (.slice A n c) es) (hj:es[j]? =some e):∃b o cs,A=some ⟨b,o,none⟩∧Q b∧w.rangeAt b (o+j*sz) cs∧R w Q e cs:=by
 obtain⟨A',c',hv,_,hx⟩:=h;injection hv with hA;subst hA;have hl:j<es.length:=(VG.1 hj).1;obtain⟨b,o,rfl,hb,hks⟩:=hx (by omega);obtain⟨cs,h1,h2⟩:=hks j e hj;exact⟨b,o,cs,rfl,hb,h1,h2⟩
end
def Lg (w:World) (Q:Nat→Prop) (d:Du) (cs:List Value):Prop:=∃vl x,cs=GT d.1.1 vl x∧Ba w Q 2 vl (d.1.2.map Bi)∧d.2=(x 0,x 1,x 2)
theorem Io:KC Lg:=fun _ _ _ _ _ _ _ h hq hk=>by
 obtain⟨vl,x,h1,h2,h3⟩:=h;exact⟨vl,x,h1,h2.keep hq hk,h3⟩
def UC:List Value:=GT ⟨#[]⟩ (.slice none 0 0) fun _=>0
theorem Nf:(Tryz.prog.info? 54).map (·.size)=some 12:=by kernel_rfl
theorem LE (nm:ByteArray) (A:Option Addr) (n c:Nat) (x:Fin 10→Int):∀v∈GT nm (.slice A n c) x,v.oneCell'=true:=by
 intro v hv;simp only[GT,List.mem_cons,List.not_mem_nil,or_false]at hv;rcases hv with rfl|rfl|rfl|rfl|rfl|rfl|rfl|rfl|rfl|rfl|rfl|rfl<;>rfl
theorem NO {ds:List Du} {e:Ex} {j:Nat} {d:Du} (h:ds[j]? =some d):GI (ds.take (j+1)) e=GI (ds.take j) e++(if((d.1.1.toList==e.name.toList)&&Gi d.1.2 e.ms)=true then[d.2]else[]):=by
 have hk:=(VG.1 h).1;have hd:=(VG.1 h).2;unfold GI;rw[←List.take_append_getElem hk,hd,List.filter_append,List.map_append,List.filter_cons];split<;>rfl
theorem Tl:My Tryz.prog 71 51 3 24 (.agg #[.int .i64 0,.int .i64 0,.int .i64 0]):=⟨Tryz.underlying71,by kernel_rfl,rfl,by decide,by decide⟩
theorem Ov (u:Un):Instr.fill (fun i=>some (i*3,3)) ((Array.range (1*3)).map ((Value.agg #[.int .i64 0,.int .i64 0,.int .i64 0]).cells[·%(Value.agg #[.int .i64 0,.int .i64 0,.int .i64 0]).cells.size]!)) [(0,.agg (Aa u).toArray)]=some (Aa u).toArray:=by kernel_rfl
theorem K0 {o:Oper} {a:Act} {w:World} {K:Act→World→Prop} {Q:Exit→Act→World→Prop} (x:Operand) (ho:o.op= .buildSlice 71 1 #[(0,x)]) {u:Un} (hx:a.eval x= .agg (Aa u).toArray)
  (h:K (a.put o.dst (.slice (some ⟨w.heap.size,0,none⟩) 1 1)) (w.alloc (.cells (Aa u).toArray 51))):o.wp Tryz.prog a w K Q:=by
 obtain⟨i,hi,hz,hs,hby⟩:=info_parts Tl.info;refine wp_buildSlice 71 51 1 #[(0,x)] ho (Aa u).toArray i (.agg #[.int .i64 0,.int .i64 0,.int .i64 0]) Tryz.underlying71 hi hz (by rw[hs];decide) (by rw[hs];decide) ?_ h;rw[hs];simp only[List.map_toArray,List.map_cons,List.map_nil,hx];exact Ov u
theorem RN {P:Program} {ops:Array Oper} {rest:List Oper} {o:Oper} {a:Act} {w:World} {Q:Exit→Act→World→Prop} (T:TypeId) (n:Nat) (x:Operand) (_:o.op= .buildSlice T n #[(0,x)]) (h:wpList P ops Q (o::rest) a w):wpList P ops Q (o::rest) a w:=h
theorem QA {P:Program} {ops:Array Oper} {rest:List Oper} {o:Oper} {a:Act} {w:World} {Q:Exit→Act→World→Prop} (T:TypeId) (x y:Operand) (_:o.op= .call { callee:= .builtin .append,args:=#[x,y],argTypes:=#[T,T] }) (h:wpList P ops Q (o::rest) a w):wpList P ops Q (o::rest) a w:=h
theorem Kn (u:Un) (w:World):(part 3 (Aa u).toArray 0).run Tryz.prog w= .ok (.int .i64 u.1) w∧(part 3 (Aa u).toArray 1).run Tryz.prog w= .ok (.int .i64 u.2.1) w∧(part 3 (Aa u).toArray 2).run Tryz.prog w= .ok (.int .i64 u.2.2) w:=by
 refine⟨?_,?_,?_⟩<;>simp[go_sem,part,Tryz.underlying3,Aa]
theorem Jn (u v:Un) (r:Bool) (hr:decide (u=v)=r) (w:World):(Op.equalIn 10000 51 (.agg (Aa u).toArray) (.agg (Aa v).toArray)).run Tryz.prog w= .ok r w:=by
 obtain⟨i,hi⟩:=Option.isSome_iff_exists.1 (show(Tryz.prog.info? 3).isSome=true by kernel_rfl);have h:=run_equalIn_array (P:=Tryz.prog) (w:=w) 9999 (t:=51) (e:=3) (n:=3) (Aa u).toArray (Aa v).toArray Tryz.underlying51 hi;rw[h];have he:∀(x y:Int) (w:World),(Op.equalIn 9999 3 (.int .i64 x) (.int .i64 y)).run Tryz.prog w= .ok (x==y) w:=fun x y w=>run_equalIn_int w 9998 3 _ _ _ _ Tryz.underlying3
 show(Op.eqItems 9999 3 1 (Aa u).toArray (Aa v).toArray [0,1,2]).run Tryz.prog w=_;have p0:=fun(u:Un) w=>(Kn u w).1
 have p1:=fun(u:Un) w=>(Kn u w).2.1
 have p2:=fun(u:Un) w=>(Kn u w).2.2
 obtain⟨u1,u2,u3⟩:=u;obtain⟨v1,v2,v3⟩:=v;simp only[Op.eqItems,Nat.mul_one,Sem.run_bind,p0,p1,p2,he,Result.andThen_ok];rw[←hr];by_cases h1:u1=v1
 ·by_cases h2:u2=v2
  ·by_cases h3:u3=v3
   ·simp[h1,h2,h3,p1,p2,he]
   have e3:(u3==v3)=false:=by rw[V4];exact h3
   simp[h1,h2,h3,e3,p1,p2,he]
  have e2:(u2==v2)=false:=by rw[V4];exact h2
  simp[h1,h2,e2,p1,p2,he]
 have e1:(u1==v1)=false:=by rw[V4];exact h1
 simp[h1,e1,p1,p2,he]
theorem QH (u v:Un) (r:Bool) (hr:(!decide (u=v))=r) (w:World):(binOp .neq 51 (.agg (Aa u).toArray) (.agg (Aa v).toArray)).run Tryz.prog w= .ok (.bool r) w:=by
 rw[run_neq_struct,Jn u v _ rfl,←hr];rfl
theorem Pj (g:Nat) (T:TypeId) (dv:Value) (ds:List Du) (e:Ex) (w:World) (cs:List Value) (hb:AR w g T (E9 dv 0).toArray) (hd:GZ Lg 12 w (fun b=>b<g) dv ds) (hdn:ds.length≤1000) (hls:∀d∈ds,d.1.2.length≤1000000) (hr:BU w g e cs) (hms:e.ms.length≤1000000):
  Calls Tryz.prog 78 #[.pointer (some ⟨g,0,none⟩),.agg cs.toArray] w fun e' w'=>e'= .returned (.agg (Aa (DJ 7 ds e).1).toArray)∧AR w' g T (E9 dv (DJ 7 ds e).2).toArray∧AA (fun i=>i=g) w w':=by
 obtain⟨vm,vb,vk,rfl,hm, -, -⟩:=hr.open_;obtain⟨A1,n1,c1,rfl, -⟩:∃A n c,vm= .slice A n c∧n=n:=by obtain⟨A,c,h, -⟩:=hm;exact⟨A,_,c,h,rfl⟩
 obtain⟨A9,n9,c9,rfl,hn9,hc9⟩:=hd.slice;have HN:=V3 hn9;have hlt:=hb.lt;have HMt:=V3 (fun(d:Du) (A:Option Addr) (n c:Nat) w' (hg:A4 w w') (hl:Ba w (fun b=>b<g) 2 (.slice A n c) (d.1.2.map Bi)) (h1:d.1.2.length≤1000000)=>P2 d.1.2 e.ms (.slice A n c) (.slice A1 n1 c1) w' (Cg.keep (hl.toB (B:=g) (fun b h=>h)) (Nat.le_of_lt hlt) (VD (Nat.le_of_lt hlt) hg.size) hg (fun _ _ h=>h)) h1 (Cg.keep hm (Nat.le_of_lt hlt) (VD (Nat.le_of_lt hlt) hg.size) hg (fun _ _ h=>h)) hms);have HLs:=V3 hls;have HD:=V3 hd;have hdn9:n9≤1000:=by omega
 clear hr hm hms hls hd hdn;have h2:=VW w 29 (AC e (.slice A1 n1 c1) vb vk).toArray;have hb2:=hb.alloc (.cells (AC e (.slice A1 n1 c1) vb vk).toArray 29);have k2:=(VU w).alloc (.cells (AC e (.slice A1 n1 c1) vb vk).toArray 29);go_enter Tryz.func78,Tryz.ntmps78;go_upto_region 1 with fail;change Code.wp _ _ _ _ ((w.alloc (.cells (AC e (.slice A1 n1 c1) vb vk).toArray 29)).alloc (.cells (Aa BO).toArray 51));generalize hw1:w.alloc (.cells (AC e (.slice A1 n1 c1) vb vk).toArray 29)=w1 at*;have s1:w1.heap.size=w.heap.size+1:=by rw[←hw1];simp
 clear hw1;have h3:=VW w1 51 (Aa BO).toArray;have hb3:=hb2.alloc (.cells (Aa BO).toArray 51);have h23:=h2.alloc (.cells (Aa BO).toArray 51);have k3:=k2.alloc (.cells (Aa BO).toArray 51);generalize w1.alloc (.cells (Aa BO).toArray 51)=w2 at*;obtain⟨y,hy⟩:∃y,w.heap.size=y:=⟨_,rfl⟩;rw[hy]at s1 h23 ⊢;obtain⟨z,hz⟩:∃z,y+1=z:=⟨_,rfl⟩;rw[s1,hz]at h3;rw[hz];have HNe:=V3 (show z≠g∧w.heap.size≤z from⟨by omega,by omega⟩);have HGW:=V3 hlt;have HX:=V3 h23;have HZ:=V3 h3;have HB:=V3 hb3;have HK:=V3 k3;have c0:w2.cell? ⟨g,0,none⟩=some (.slice A9 n9 c9):=hb3.cell 0;clear hb hb2 h2 k2 hy hz s1 h3 hb3 h23 k3 hlt hn9;go_wp2_with fail;clear c0;go_loopw [5,19] (fun so i wr=>∃(j:Nat),j≤n9∧i= .int .i64 (j:Nat)∧B8 wr w2.heap.size 51 3 so ((GI (ds.take j) e).map Aa)∧A4 w2 wr) (fun _ i _=>n9-(intOf i).toNat)
 case atStart=>exact⟨0,by omega,rfl,B8.nil _ _ _ _,VU _⟩
 case round=>
  obtain⟨j,hj,rfl,hM,hG⟩:=hrel;obtain⟨As,ns,ks,rfl,hns, -⟩:=hM.slice;have HM:=V3 hM;have HG:=V3 hG;have HSz:=V3 hG.size;have HNs:=V3 hns;clear hM hG hns;by_cases hlt:j<n9
  ·obtain⟨d,hd⟩:∃d,ds[j]? =some d:=⟨_,VB (by rw[←HN.out];exact hlt)⟩;obtain⟨b,o,cs,hA,hbl,hrg,vl,x,rfl,hlb,hu⟩:=HD.out.at_ hd;subst hA;obtain⟨A5,n5,c5,rfl, -, -⟩:=hlb.slice;have HRw:=V3 (AU (S:=fun _=>False) hrg (Nat.lt_trans hbl HGW.out) (HK.out.trans HG.out) (fun h=>h));have HMt2:=V3 (fun w' (hg:A4 w w')=>HMt.out d A5 n5 c5 w' hg hlb (HLs.out d (VJ hd)));have HS:=V3 (NO (e:=e) hd);have HU:=V3 hu;have HLen:=V3 (show(GI (ds.take j) e).length≤1000 from by
    unfold GI;have h1:=List.length_filter_le (fun d:Du=>(d.1.1.toList==e.name.toList)&&Gi d.1.2 e.ms) (ds.take j);rw[List.length_map];rw[List.length_take]at h1;omega)
   clear hd hbl hrg hlb hu;go_upto_region 5 with(first|((with_reducible refine AF 54 (.tmp 21) rfl ?_);refine wpList_load_mid rfl 54 (.tmp 21) rfl b (o+j*12) rfl (GT d.1.1 (.slice A5 n5 c5) x) _ HRw.out Tryz.underlying54 rfl Nf ?_)|((with_reducible refine AG 54 (.tmp 7) (.tmp 22) rfl ?_);refine BL 54 (.tmp 7) (.tmp 22) (wr.heap.size) (GT d.1.1 (.slice A5 n5 c5) x) UC 54 Nf rfl (LE _ _ _ _ _) rfl rfl rfl rfl (VW wr 54 _) ?_;intro w6 hb6 k6 d6;have g6:A4 wr w6:=VV ((VU wr).alloc _) k6 (fun i hi e=>by omega);have HB6:=V3 hb6;have HG6:=V3 g6;clear hb6 k6 d6 g6));obtain⟨zd,hzd⟩:∃z,wr.heap.size=z:=⟨_,rfl⟩;rw[hzd]at HB6 ⊢;clear hzd;have c0:w6.cell? ⟨zd,0,none⟩=some (.string d.1.1):=HB6.out.cell 0;have c1':w6.cell? ⟨zd,1,none⟩=some (.slice A5 n5 c5):=HB6.out.cell 1;have c7:w6.cell? ⟨y,7,none⟩=some (.string e.name):=((HX.out.grew HG.out).grew HG6.out).cell 7;have c8:w6.cell? ⟨y,8,none⟩=some (.slice A1 n1 c1):=((HX.out.grew HG.out).grew HG6.out).cell 8;obtain⟨q,hq⟩:∃q,(d.1.1.toList==e.name.toList)=q:=⟨_,rfl⟩;have HQ:=V3 hq;cases q
   ·go_wp2_with fail;go_roundw
    case rel=>exact⟨j+1,by omega,by go_num,by rw[HS.out,HQ.out];simpa using HM.out.grew HG6.out,HG.out.trans HG6.out⟩
    case measure=>simp[intOf];omega
   obtain⟨p,hp⟩:∃p,Gi d.1.2 e.ms=p:=⟨_,rfl⟩;rw[hp]at HMt2;have HP:=V3 hp;clear hp;go_upto_if 34 with(go_at_call 41;(with_reducible refine(HMt2.out _ (HK.out.trans (HG.out.trans HG6.out))).mono ?_);rintro e7 w7 ⟨rfl,k7⟩;have HG7:=V3 (HG6.out.trans k7);have HB7:=V3 (HB6.out.grew k7);clear k7);clear c0 c1' c7 c8;cases p
   ·go_wp2_with fail;go_roundw
    case rel=>exact⟨j+1,by omega,by go_num,by rw[HS.out,HQ.out,HP.out];simpa using HM.out.grew HG7.out,HG.out.trans HG7.out⟩
    case measure=>simp[intOf];omega
   have HUr:=V3 (show w7.rangeAt zd 2 (Aa d.2)from HB7.out.rangeN 2 (Aa d.2) (by rw[HU.out];rfl));have hM7:=HM.out.grew HG7.out;have hw7:w2.heap.size≤(w7.alloc (.cells (Aa d.2).toArray 51)).heap.size:=by have h1:=HSz.out;have h2:=HG7.out.size;simp only[World.size_alloc];omega
   go_wp2_with(first|((with_reducible refine AF 51 (.tmp 36) rfl ?_);refine wpList_load_mid rfl 51 (.tmp 36) rfl zd (2) rfl (Aa d.2) _ HUr.out Tryz.underlying51 rfl Ag ?_)|((with_reducible refine RN 71 1 (.tmp 37) rfl ?_);refine wpList_plain rfl fun K hK=>?_;refine K0 (.tmp 37) rfl (u:=d.2) rfl ?_;refine hK _ _ ?_;clear hK K)|((with_reducible refine QA 71 (.tmp 35) (.tmp 38) rfl ?_);refine wpList_plain rfl fun K hK=>?_;refine Ks Tl (.tmp 35) (.tmp 38) rfl rfl (hM7.alloc _) rfl (VW w7 51 (Aa d.2).toArray) (B4 _) rfl (by rw[List.length_map];have:=HLen.out;omega) hw7 ?_;intro v8 w8 hM8 k8 ho8;obtain⟨A8,n8,q8,rfl, -, -⟩:=hM8.slice;have HM8:=V3 hM8;have HG8:=V3 (VV ((HG.out.trans HG7.out).alloc _) k8 fun i hi e=>by have:=(HM.out.lt i e).1;omega);refine hK _ _ ?_;clear hK K hM8 k8 ho8));go_roundw
   case rel=>exact⟨j+1,by omega,by go_num,by rw[HS.out,HQ.out,HP.out];simpa using HM8.out,HG8.out⟩
   case measure=>simp[intOf];omega
  obtain rfl:n9=j:=by omega
  obtain⟨wo,rfl⟩:∃x,x=wr:=⟨wr,rfl⟩;have hM:=HM.out;have hns:=HNs.out;have hlen:(GI (ds.take n9) e).length≤1000:=by
   unfold GI;have h1:=List.length_filter_le (fun d:Du=>(d.1.1.toList==e.name.toList)&&Gi d.1.2 e.ms) (ds.take n9);rw[List.length_map];rw[List.length_take]at h1;omega
  rw[show ds.take n9=ds from List.take_of_length_le (by rw[←HN.out];exact V6 _)]at hM hns hlen;obtain⟨us,hus⟩:∃us,GI ds e=us:=⟨_,rfl⟩;rw[hus]at hM hns hlen;rw[List.length_map]at hns;have HT0:=V3 hus;have HBr:=V3 (HB.out.grew HG.out);have HZr:=V3 (HZ.out.grew HG.out);have HKr:=V3 (HK.out.trans HG.out);clear hus HM HNs HLs HMt HD;rcases us with _|⟨u,us⟩
  ·obtain rfl:ns=0:=by simpa using hns
   have HT:=V3 (show DJ 7 ds e=(BO,8) by unfold DJ;rw[HT0.out]);clear hns hM;go_wp2_with(first|(go_at_call 79;(with_reducible refine(DN g T (.slice A9 n9 c9) 8 _ HBr.out).mono ?_);rintro e8 w8 ⟨rfl,hb8,k8⟩;have HB8:=V3 hb8;have HZ8:=V3 (HZr.out.keep k8 HNe.out.1);have HK8:=V3 (VV ((HKr.out).keeps (S:=fun i=>i=g)) k8 fun i _ h=>h);clear hb8 k8)|((with_reducible refine AG 51 (.tmp 4) (.tmp 47) rfl ?_);refine BL 51 (.tmp 4) (.tmp 47) z (Aa BO) (Aa BO) 51 Ag rfl (B4 _) rfl rfl rfl rfl HZ8.out ?_;intro w9 hbw9 kw9 dw9;have HZ9:=V3 hbw9;have HB9:=V3 (HB8.out.keep kw9 (fun e=>HNe.out.1 e.symm));have HK9:=V3 (VV HK8.out kw9 fun i hi e=>by have:=HNe.out.2;omega);clear hbw9 kw9 dw9));refine bodyPost_ret (AO rfl rfl Ag Tryz.underlying51 rfl HZ9.out) rfl ?_;rw[HT.out];exact⟨rfl,HB9.out,HK9.out⟩
  have hR:=hM.rd;obtain⟨n8,hn8⟩:∃n,(u::us).length=n:=⟨_,rfl⟩;rw[hn8]at hns hlen;subst hns;have hpos:0<ns:=by rw[←hn8];simp
  obtain⟨bu,ou,hAe,hRg⟩:∃b o,As=some ⟨b,o,none⟩∧∀(k:Nat) (v:Un),(u::us)[k]? =some v→wo.rangeAt b (o+k*3) (Aa v):=by
   obtain⟨A,c,hv,hc,hx⟩:=hR;injection hv with hA;subst hA;obtain⟨b,o,e1, -,hcell⟩:=hx (by simp);exact⟨b,o,e1,fun k v hk=>hcell k _ (by rw[List.getElem?_map,hk];rfl)⟩
  subst hAe;have hbw:bu<wo.heap.size:=(hM.lt bu rfl).2;have HRg:=V3 (fun w' (hg:A4 wo w') k v (hk:(u::us)[k]? =some v)=>AU (S:=fun _=>False) (hRg k v hk) hbw hg (fun h=>h));have HN8:=V3 hn8;have HXr:=V3 (HX.out.grew HG.out);clear hR hRg hbw hM hn8 HX HB HZ HK;have t0:((ns:Int)==0)=false:=by rw[V4];omega
  go_wp2_with fail;go_loopw [50] (fun i wr=>∃(k:Nat),k≤ns∧i= .int .i64 (k:Nat)∧(∀m v,m<k→(u::us)[m]? =some v→Cl v=true)∧A4 wo wr) (fun i _=>ns-(intOf i).toNat)
  case atStart=>exact⟨0,by omega,rfl,fun m v h=>absurd h (by omega),VU _⟩
  case round=>
   obtain⟨k,hk,rfl,hall,hGq⟩:=hrel;have HAl:=V3 hall;have HGq:=V3 hGq;clear hall hGq;by_cases hkl:k<ns
   ·obtain⟨v,hv⟩:∃v,(u::us)[k]? =some v:=⟨_,VB (by rw[HN8.out];exact hkl)⟩;have HRk:=V3 (HRg.out wr HGq.out k v hv);have HVk:=V3 hv;clear hv;obtain⟨p,hp⟩:∃p,Cl v=p:=⟨_,rfl⟩;have HVd:=V3 (fun w'=>JY v w');rw[hp]at HVd;have HP:=V3 hp;clear hp;go_upto_if 56 with(first|((with_reducible refine AF 51 (.tmp 52) rfl ?_);refine wpList_load_mid rfl 51 (.tmp 52) rfl bu (ou+k*3) rfl (Aa v) _ HRk.out Tryz.underlying51 rfl Ag ?_)|((with_reducible refine AG 51 (.tmp 9) (.tmp 53) rfl ?_);refine BL 51 (.tmp 9) (.tmp 53) (wr.heap.size) (Aa v) (Aa BO) 51 Ag rfl (B4 _) rfl rfl rfl rfl (VW wr 51 _) ?_;intro w6 hbw6 kw6 dw6;have g6:A4 wr w6:=VV ((VU wr).alloc _) kw6 (fun i hi e=>by omega);have HB6:=V3 hbw6;have HG6:=V3 (HGq.out.trans g6);clear g6;clear hbw6 kw6 dw6)|((with_reducible refine AF 51 (.tmp 9) rfl ?_);refine BZ 51 Tryz.underlying51 rfl (.tmp 9) (wr.heap.size) (Aa v) 51 Ag rfl rfl rfl HB6.out ?_)|(go_at_call 109;(with_reducible refine(HVd.out _).mono ?_);rintro e7 w7 ⟨rfl,k7⟩;have HG7:=V3 (HG6.out.trans k7);clear k7));cases p
    ·have HT:=V3 (show DJ 7 ds e=(BO,4) by
      unfold DJ;rw[HT0.out];have:(u::us).all Cl=false:=by
       rw[List.all_eq_false];exact⟨v,VJ HVk.out,by rw[HP.out];decide⟩
      exact VN this)
     have HB7:=V3 (HBr.out.grew HG7.out);have HZ7:=V3 (HZr.out.grew HG7.out);have HK7:=V3 (HKr.out.trans HG7.out);go_wp2_with(first|(go_at_call 79;(with_reducible refine(DN g T (.slice A9 n9 c9) 4 _ HB7.out).mono ?_);rintro e8 w8 ⟨rfl,hb8,k8⟩;have HB8:=V3 hb8;have HZ8:=V3 (HZ7.out.keep k8 HNe.out.1);have HK8:=V3 (VV ((HK7.out).keeps (S:=fun i=>i=g)) k8 fun i _ h=>h);clear hb8 k8)|((with_reducible refine AG 51 (.tmp 4) (.tmp 60) rfl ?_);refine BL 51 (.tmp 4) (.tmp 60) z (Aa BO) (Aa BO) 51 Ag rfl (B4 _) rfl rfl rfl rfl HZ8.out ?_;intro w9 hbw9 kw9 dw9;have HZ9:=V3 hbw9;have HB9:=V3 (HB8.out.keep kw9 (fun e=>HNe.out.1 e.symm));have HK9:=V3 (VV HK8.out kw9 fun i hi e=>by have:=HNe.out.2;omega);clear hbw9 kw9 dw9));refine bodyPost_ret (AO rfl rfl Ag Tryz.underlying51 rfl HZ9.out) rfl ?_;rw[HT.out];exact⟨rfl,HB9.out,HK9.out⟩
    go_wp2_with fail;go_roundw
    case rel=>exact⟨k+1,by omega,by go_num,fun m v' hm hv'=>by
     rcases Nat.lt_or_ge m k with h|h
     ·exact HAl.out m v' h hv'
     obtain rfl:m=k:=by omega
     rw[HVk.out]at hv';injection hv' with hv';rw[←hv'];exact HP.out,HG7.out⟩
    case measure=>simp[intOf];omega
   obtain rfl:ns=k:=by omega
   have HAll:=V3 (show(u::us).all Cl=true from List.all_eq_true.2 fun v hv=>by
    obtain⟨m,hm⟩:=List.getElem?_of_mem hv;exact HAl.out m v (by rw[←HN8.out];exact(VG.1 hm).1) hm)
   have HGl:=HGq;clear HAl;go_wp2_with fail;have hGs:=HGl.out;go_loopw [64] (fun i wr=>∃(k:Nat),k≤ns∧i= .int .i64 (k:Nat)∧(∀m v,m<k→(u::us)[m]? =some v→v=u)∧A4 wo wr) (fun i _=>ns-(intOf i).toNat)
   case atStart=>exact⟨0,by omega,rfl,fun m v h=>absurd h (by omega),hGs⟩
   case round=>
    obtain⟨k,hk,rfl,hall,hGq⟩:=hrel;have HAl:=V3 hall;have HGt:=V3 hGq;clear hall hGq hGs HGq HGl;by_cases hkl:k<ns
    ·obtain⟨v,hv⟩:∃v,(u::us)[k]? =some v:=⟨_,VB (by rw[HN8.out];exact hkl)⟩;have HRk:=V3 (HRg.out wr HGt.out k v hv);have HVk:=V3 hv;clear hv;go_upto_region 19 with(first|((with_reducible refine AF 51 (.tmp 66) rfl ?_);refine wpList_load_mid rfl 51 (.tmp 66) rfl bu (ou+k*3) rfl (Aa v) _ HRk.out Tryz.underlying51 rfl Ag ?_)|((with_reducible refine AG 51 (.tmp 11) (.tmp 67) rfl ?_);refine BL 51 (.tmp 11) (.tmp 67) (wr.heap.size) (Aa v) (Aa BO) 51 Ag rfl (B4 _) rfl rfl rfl rfl (VW wr 51 _) ?_;intro w6 hbw6 kw6 dw6;have g6:A4 wr w6:=VV ((VU wr).alloc _) kw6 (fun i hi e=>by omega);have HB6:=V3 hbw6;have HG6:=V3 (HGt.out.trans g6);clear g6;clear hbw6 kw6 dw6));obtain⟨zv,hzv⟩:∃z,wr.heap.size=z:=⟨_,rfl⟩;rw[hzv]at HB6 ⊢;clear hzv;have gd:A4 w6 w6.drew:=VX (VU w6);obtain⟨p,hp⟩:∃p:Bool,decide (v=u)=p:=⟨_,rfl⟩;have HE:=V3 (fun w'=>Jn v u p hp w');have HP:=V3 hp;clear hp;have HR0:=V3 (fun w' (hg:A4 w6 w')=>HRg.out w' (HG6.out.trans hg) 0 u rfl);have hpz:(0:Int)<(ns:Nat):=by omega
     refine JD (by kernel_rfl) [.agg (Aa v).toArray,.slice (some ⟨bu,ou,none⟩) ns ks,.pointer (some ⟨bu,ou,none⟩),.agg (Aa u).toArray,.bool (!p)] _ (by kernel_rfl) (by kernel_rfl) rfl ?sH (by kernel_rfl) ?sT
     case sH=>
      simp only[List.toList_toArray,Af,Act.put,List.setIfInBounds_toArray,List.set_cons_zero,List.set_cons_succ];refine AD (by kernel_rfl) (fun w' hg=>?_) ?_
      ·refine wp_load_mid 51 (.tmp 11) rfl zv 0 rfl (Aa v) _ ((HB6.out.grew (gd.trans hg)).rangeN 0 _ rfl) Tryz.underlying51 rfl Ag ?_;exact⟨rfl,VU _⟩
      refine AD (by kernel_rfl) (fun w' hg=>?_) ?_
      ·go_simp;exact VU _
      refine AD (by kernel_rfl) (fun w' hg=>?_) ?_
      ·go_simp;exact VU _
      refine AD (by kernel_rfl) (fun w' hg=>?_) ?_
      ·refine wp_load_mid 51 (.tmp 70) rfl bu ou rfl (Aa u) _ (by have:=HR0.out w' (gd.trans hg);simpa using this) Tryz.underlying51 rfl Ag ?_;exact⟨rfl,VU _⟩
      refine AD (by kernel_rfl) (fun w' hg=>?_) ?_
      ·go_simp;have h9:=HE.out w';go_simp;exact VU _
      exact AK
     case sT=>
      intro wn hgn;simp only[List.toList_toArray,Af,Act.put,List.setIfInBounds_toArray,List.set_cons_zero,List.set_cons_succ];have HGn:=V3 (HG6.out.trans hgn);clear hgn;cases p
      ·have HT:=V3 (show DJ 7 ds e=(BO,7) by
        unfold DJ;rw[HT0.out];have h1:us.all (·==u)=false:=by
         rcases k with _|k
         ·exact absurd (VE HVk.out) (by intro h;have h2:=HP.out;rw[h]at h2;simp at h2)
         rw[List.all_eq_false];exact⟨v,VJ (by simpa using HVk.out),by have h2:=of_decide_eq_false HP.out;simpa using h2⟩
        show(if _ then _ else _)=_;rw[VM (by rw[HAll.out];decide)];exact VN h1)
       have HB7:=V3 (HBr.out.grew HGn.out);have HZ7:=V3 (HZr.out.grew HGn.out);have HK7:=V3 (HKr.out.trans HGn.out);go_wp2_with(first|(go_at_call 79;(with_reducible refine(DN g T (.slice A9 n9 c9) 7 _ HB7.out).mono ?_);rintro e8 w8 ⟨rfl,hb8,k8⟩;have HB8:=V3 hb8;have HZ8:=V3 (HZ7.out.keep k8 HNe.out.1);have HK8:=V3 (VV ((HK7.out).keeps (S:=fun i=>i=g)) k8 fun i _ h=>h);clear hb8 k8)|((with_reducible refine AG 51 (.tmp 4) (.tmp 76) rfl ?_);refine BL 51 (.tmp 4) (.tmp 76) z (Aa BO) (Aa BO) 51 Ag rfl (B4 _) rfl rfl rfl rfl HZ8.out ?_;intro w9 hbw9 kw9 dw9;have HZ9:=V3 hbw9;have HB9:=V3 (HB8.out.keep kw9 (fun e=>HNe.out.1 e.symm));have HK9:=V3 (VV HK8.out kw9 fun i hi e=>by have:=HNe.out.2;omega);clear hbw9 kw9 dw9));refine bodyPost_ret (AO rfl rfl Ag Tryz.underlying51 rfl HZ9.out) rfl ?_;rw[HT.out];exact⟨rfl,HB9.out,HK9.out⟩
      go_wp2_with fail;go_roundw
      case rel=>exact⟨k+1,by omega,by go_num,fun m v' hm hv'=>by
       rcases Nat.lt_or_ge m k with h|h
       ·exact HAl.out m v' h hv'
       obtain rfl:m=k:=by omega
       rw[HVk.out]at hv';injection hv' with hv';rw[←hv'];exact VH HP.out,HGn.out⟩
      case measure=>simp[intOf];omega
    obtain rfl:ns=k:=by omega
    have HT1:=V3 (show DJ 7 ds e=FB (if e.fn=6 then(u.1,u.2.1,u.2.2-1)else u) by
     unfold DJ;rw[HT0.out];show(if _ then _ else _)=_;rw[VM (by rw[HAll.out];decide),VM];rw[Bool.not_eq_false,List.all_eq_true];intro v hv;obtain⟨m,hm⟩:=List.getElem?_of_mem hv;have h1:=HAl.out (m+1) v (by rw[←HN8.out];have:=(VG.1 hm).1;simpa using this) (by simpa using hm);rw[h1];exact beq_self_eq_true u)
    have HU0:=V3 (show Cl u=true from(List.all_eq_true.1 HAll.out) u List.mem_cons_self);have HR0:=V3 (HRg.out wr HGt.out 0 u rfl);have HRz:=V3 (show wr.rangeAt bu ou (Aa u) by have:=HR0.out;simpa using this);have hpz:(0:Int)<(ns:Nat):=by omega
    clear HR0 HRg;have c1f:wr.cell? ⟨y,1,none⟩=some (.int .i64 e.fn):=(HXr.out.grew HGt.out).cell 1;go_upto_region 23 with(first|((with_reducible refine AF 51 (.tmp 79) rfl ?_);refine wpList_load_mid rfl 51 (.tmp 79) rfl bu (ou) rfl (Aa u) _ HRz.out Tryz.underlying51 rfl Ag ?_)|((with_reducible refine AG 51 (.tmp 12) (.tmp 80) rfl ?_);refine BL 51 (.tmp 12) (.tmp 80) (wr.heap.size) (Aa u) (Aa BO) 51 Ag rfl (B4 _) rfl rfl rfl rfl (VW wr 51 _) ?_;intro w6 hbw6 kw6 dw6;have g6:A4 wr w6:=VV ((VU wr).alloc _) kw6 (fun i hi e=>by omega);have HB6:=V3 hbw6;have HG6:=V3 (HGt.out.trans g6);clear g6;clear hbw6 kw6 dw6));have d1f:w6.cell? ⟨y,1,none⟩=some (.int .i64 e.fn):=(HXr.out.grew HG6.out).cell 1;have HZn:=V3 (show z≠wr.heap.size∧g≠wr.heap.size from by have h1:=HZr.out.lt;have h2:=HBr.out.lt;have h3:=HGt.out.size;exact⟨by omega,by omega⟩);obtain⟨zv,hzv⟩:∃z,wr.heap.size=z:=⟨_,rfl⟩;have HGz:=V3 (show wo.heap.size≤zv from by have h3:=HGt.out.size;omega);rw[hzv]at HB6 HZn ⊢;clear hzv c1f;go_upto_if 83 with fail;go_cut [] (fun wc=>∃u',(if e.fn=6 then(u.1,u.2.1,u.2.2-1)else u)=u'∧AR wc zv 51 (Aa u').toArray∧A4 wo wc)
    case first=>
     have hu0:=HU0.out;unfold Cl at hu0;simp only[Bool.and_eq_true,decide_eq_true_eq]at hu0;by_cases h6:e.fn=6
     ·have t6:(e.fn==6)=true:=by rw[VC];exact h6
      have b2:w6.cell? ⟨zv,2,none⟩=some (.int .i64 u.2.2):=HB6.out.cell 2;have f2:w6.frozen? ⟨zv,2,none⟩=false:=HB6.out.frozen 2;have hw:IntKind.i64.wrap (u.2.2-1)=u.2.2-1:=IntWalk.i64_in _ (by omega);have HB9:=V3 (show AR (w6.setCell ⟨zv,2,none⟩ (.int .i64 (u.2.2-1))) zv 51 (Aa (u.1,u.2.1,u.2.2-1)).toArray from HB6.out.set_ 2 _);have HG9:=V3 (show A4 wo (w6.setCell ⟨zv,2,none⟩ (.int .i64 (u.2.2-1)))from VZ HG6.out (p:=⟨zv,2,none⟩) (.inr HGz.out) _);clear hu0;go_wp2_with fail;go_meet;exact⟨_,VN h6,HB9.out,HG9.out⟩
     have t6:(e.fn==6)=false:=by rw[V4];exact h6
     clear hu0;go_wp2_with fail;go_meet;exact⟨_,VM h6,HB6.out,HG6.out⟩
    case rest=>
     obtain⟨u',hu',hb',hg'⟩:=hcut;have HT:=V3 (show DJ 7 ds e=FB u' by rw[HT1.out,hu']);have HB6':=V3 hb';have HG6':=V3 hg';clear hu' hb' hg' d1f HT1 HB6 HG6;have gd:A4 wc wc.drew:=VX (VU wc);have HLm:=V3 (FF g T (.slice A9 n9 c9) u' wc.drew (HBr.out.grew (HG6'.out.trans gd)));go_upto_region 25 with fail;refine C6 [(4,fun w'=>w'=wc.drew)] (by kernel_rfl) (by intro pp hp;obtain rfl:=VF.1 hp;exact rfl) ?_;intro hcl hkn
     try simp only[List.getElem_toArray,List.getElem_cons_zero,List.getElem_cons_succ,Act.put,List.setIfInBounds_toArray,List.set_cons_zero,List.set_cons_succ]
     refine' AV (i:=0) (v:=_) rfl (by kernel_rfl) (by kernel_rfl) (by kernel_rfl) hcl hkn (by rfl) (fun _ _ _ h=>h) rfl ?_ ?_
     rotate_left
     ·intro w';go_simp;try with_reducible rfl
     clear hcl hkn;intro hcl hkn
     try simp only[List.getElem_toArray,List.getElem_cons_zero,List.getElem_cons_succ,Act.put,List.setIfInBounds_toArray,List.set_cons_zero,List.set_cons_succ]
     refine' AV (i:=1) (v:=_) rfl (by kernel_rfl) (by kernel_rfl) (by kernel_rfl) hcl hkn (by rfl) (fun _ _ _ h=>h) rfl ?_ ?_
     rotate_left
     ·intro w';go_simp;try with_reducible rfl
     clear hcl hkn;intro hcl hkn
     try simp only[List.getElem_toArray,List.getElem_cons_zero,List.getElem_cons_succ,Act.put,List.setIfInBounds_toArray,List.set_cons_zero,List.set_cons_succ]
     refine' AV (i:=2) (v:=_) rfl (by kernel_rfl) (by kernel_rfl) (by kernel_rfl) hcl hkn (by rfl) (fun _ _ _ h=>h) rfl ?_ ?_
     rotate_left
     ·intro w';go_simp;try with_reducible rfl
     clear hcl hkn;intro hcl hkn
     try simp only[List.getElem_toArray,List.getElem_cons_zero,List.getElem_cons_succ,Act.put,List.setIfInBounds_toArray,List.set_cons_zero,List.set_cons_succ]
     refine Bg 4 _ (i:=3) rfl (by kernel_rfl) (by kernel_rfl) (by kernel_rfl) hcl hkn (by rfl) 0 rfl (by kernel_rfl) 51 (.tmp 12) rfl zv 0 rfl (Aa u') _ (fun w' hA=>by rw[hA];exact(HB6'.out.grew gd).rangeN 0 _ rfl) Tryz.underlying51 rfl Ag (fun _ _ _ h=>h) rfl ?_;clear hcl hkn;intro hcl hkn
     try simp only[List.getElem_toArray,List.getElem_cons_zero,List.getElem_cons_succ,Act.put,List.setIfInBounds_toArray,List.set_cons_zero,List.set_cons_succ]
     refine BF hcl (i:=4) (by kernel_rfl) rfl rfl (fun K hK=>?_);go_simp;(with_reducible refine HLm.out.mono ?_);rintro e8 w8 ⟨rfl,hb8,k8⟩;refine hK _ _ (Aw (.inl (by kernel_rfl))) ?_;clear hK K;clear hcl hkn;intro hcl hkn
     try simp only[List.getElem_toArray,List.getElem_cons_zero,List.getElem_cons_succ,Act.put,List.setIfInBounds_toArray,List.set_cons_zero,List.set_cons_succ]
     refine BF hcl (i:=5) (by kernel_rfl) rfl rfl (fun K hK=>?_);refine EU 51 (.tmp 4) (.tmp 92) z (Aa (FB u').1) (Aa BO) 51 Ag rfl (B4 _) rfl rfl rfl ((HZr.out.grew (HG6'.out.trans gd)).keep k8 HNe.out.1) ?_;intro w9 hb9 k9;refine hK _ _ (Aw (.inl (by kernel_rfl))) ?_;clear hK K;clear hcl hkn;intro hcl hkn
     try simp only[List.getElem_toArray,List.getElem_cons_zero,List.getElem_cons_succ,Act.put,List.setIfInBounds_toArray,List.set_cons_zero,List.set_cons_succ]
     refine Ca (by kernel_rfl) ?_ _;clear hcl hkn;have HB9:=V3 (hb8.keep k9 (fun e=>HNe.out.1 e.symm));have HZ9:=V3 hb9;have HK9:=V3 (VV (VV ((HKr.out.trans (HG6'.out.trans gd)).keeps (S:=fun i=>i=g)) k8 fun i _ h=>h) k9 fun i hi e=>by have:=HNe.out.2;omega);clear hb8 k8 hb9 k9;go_wp2_with fail;refine bodyPost_ret (AO rfl rfl Ag Tryz.underlying51 rfl HZ9.out) rfl ?_;rw[HT.out];exact⟨rfl,HB9.out,HK9.out⟩
end Go.Proofs.YthpflelgbadkcaaGreatDoor
