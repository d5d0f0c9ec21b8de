/- What the card of the law stands on: Decls8, LawRdPl, LawRd. -/
import Derived.Test.YthpflelgbadkcaaGreatDoorRewriteReadsP01
import Derived.Test.YthpflelgbadkcaaGreatDoorRewriteReadsP47
import Derived.Test.YthpflelgbadkcaaGreatDoorRewriteReadsP46
import Derived.Test.YthpflelgbadkcaaGreatDoorRewriteReadsP45
import Derived.Test.YthpflelgbadkcaaGreatDoorRewriteReadsP42
import Derived.Test.YthpflelgbadkcaaGreatDoorRewriteReadsP37
import Derived.Test.YthpflelgbadkcaaGreatDoorRewriteReadsP33
set_option maxRecDepth 100000
set_option maxHeartbeats 12800000
set_option linter.unusedVariables false
set_option linter.unusedSimpArgs false
namespace Go.Proofs.YthpflelgbadkcaaGreatDoor
open Go.RowKit Go.Shelf Pl
def Ur:List (Int×Int×Int):=[(0,0,1),(0,1,0),(1,0,0),(0,0,0),(-2,0,3),(0, -3, -3),(4,0,0),(0,0, -4)]
def Sp (u:Int×Int×Int):List Value:=[.int .i64 u.1,.int .i64 u.2.1,.int .i64 u.2.2]
def Ue (u:Int×Int×Int):Fin 10→Int:=fun i=>if i=0 then u.1 else if i=1 then u.2.1 else if i=2 then u.2.2 else 0
def UZ:List ByteArray:=[⟨#[99,112,117]⟩,⟨#[109,101,109]⟩,⟨#[97]⟩]
theorem V3:(Tryz.prog.info? 51).map (·.size)=some 3:=by kernel_rfl
def Tv:Value:= .agg (Sn ⟨#[]⟩ (.slice none 0 0) fun _=>0).toArray
theorem V2:P7 Tryz.prog 39 54 12 120 Tv:=⟨Tryz.underlying39,by kernel_rfl,rfl,by decide,by decide⟩
theorem V0 (nm:ByteArray) (A:Option Addr) (n c:Nat) (x:Fin 10→Int):∀v∈Sn nm (.slice A n c) x,v.oneCell'=true:=by
 intro v hv;simp only[Sn,List.mem_cons,List.not_mem_nil,or_false]at hv;rcases hv with rfl|rfl|rfl|rfl|rfl|rfl|rfl|rfl|rfl|rfl|rfl|rfl<;>rfl
theorem UU (nm:ByteArray) (A:Option Addr) (n c:Nat) (u:Int×Int×Int) (W:World):(Instr.build 54 #[(0,.string nm),(1,.slice A n c),(2,.agg (Sp u).toArray)]).run Tryz.prog W= .ok (.agg (Sn nm (.slice A n c) (Ue u)).toArray) W:=by kernel_rfl
theorem U9 (nm:ByteArray) (A:Option Addr) (n c:Nat) (u:Int×Int×Int):Instr.fill (fun i=>some (i*12,12)) ((Array.range (1*12)).map (Tv.cells[·%Tv.cells.size]!)) [(0,.agg (Sn nm (.slice A n c) (Ue u)).toArray)]=some (Sn nm (.slice A n c) (Ue u)).toArray:=by kernel_rfl
theorem TP {o:Oper} {a:Act} {w:World} {K:Act→World→Prop} {Q:Exit→Act→World→Prop} (x:Operand) (ho:o.op= .buildSlice 39 1 #[(0,x)]) {nm:ByteArray} {A:Option Addr} {n c:Nat} {u:Int×Int×Int} (hx:a.eval x= .agg (Sn nm (.slice A n c) (Ue u)).toArray)
  (h:K (a.put o.dst (.slice (some ⟨w.heap.size,0,none⟩) 1 1)) (w.alloc (.cells (Sn nm (.slice A n c) (Ue u)).toArray 54))):o.wp Tryz.prog a w K Q:=by
 obtain⟨i,hi,hz,hs,hby⟩:=info_parts V2.info;refine wp_buildSlice 39 54 1 #[(0,x)] ho (Sn nm (.slice A n c) (Ue u)).toArray i Tv Tryz.underlying39 hi hz (by rw[hs];decide) (by rw[hs];decide) ?_ h;rw[hs];simp only[List.map_toArray,List.map_cons,List.map_nil,hx];exact U9 nm A n c u
def TT (v:Nat):List Int:=[(v:Int),(v:Int)/64,(v:Int)/64,(v:Int)/64,(v:Int)/64,(v:Int)/64,(v:Int)/64]
theorem Uw (w:World) (t:TypeId) (xs:List Value):Rd (w.alloc (.cells xs.toArray t)) (w.alloc (.cells xs.toArray t)).heap.size (.slice (some ⟨w.heap.size,0,none⟩) xs.length xs.length) xs:=by
 have hb:=Sc w t xs.toArray;refine⟨_,_,rfl,SD _,fun _=>⟨_,rfl,hb.lt,fun j u hj=>?_⟩⟩;rw[Addr.add_mid,hb.cell,Nat.zero_add,List.getElem?_toArray];exact hj
theorem Um (v:Nat) (h:v<100000):∀x∈TT v,Bc x:=by
 intro x hx;simp only[TT,List.mem_cons,List.not_mem_nil,or_false]at hx;unfold Bc;omega
theorem Up (u:Nat) (hu:u<8) (un:Int×Int×Int) (h:Ur[u]? =some un):((Ur.map Sp).flatten.drop (u*3)).take (Sp un).length=Sp un:=by
 have h8:u=0∨u=1∨u=2∨u=3∨u=4∨u=5∨u=6∨u=7:=by omega
 rcases h8 with rfl|rfl|rfl|rfl|rfl|rfl|rfl|rfl<;>(injection h with h;subst h;rfl)
theorem Tu:UO Te:=fun w w' Q Q' S e cs h hq hk=>h.keep hq hk
def UN (w:World) (e:Ending) (w':World):Prop:=∃(v:Value) (ds:List VA),e= .returned v∧TG w' (fun b=>b<w'.heap.size) v ds∧ds.length≤6∧(∀d∈ds,d.2.length≤6)∧A5 w w'
theorem To (w:World) (v:Value) (l:List Int) (hr:Rd w w.heap.size v (l.map vi)) (hl:∀x∈l,Bc x) (hll:l.length≤1000000000000000):
  Calls Tryz.prog 17 #[v] w (UN w):=by
 obtain⟨A,n,c,rfl,hn,hc⟩:=hr.form;have HPK:=S9 (fun w' (g:A5 w w') i m (hi:i≤1000000) (hm:0<m) (hm2:m≤1000000)=>Nh (.slice A n c) l i m w' ((hr.grew (SD _) g).more g.size) hl (by omega) hi hm hm2);clear hr hl hll hn hc;obtain⟨q0,hq0⟩:∃q,Hm l 0 6=q:=⟨_,rfl⟩;have hq6:q0<6:=by rw[←hq0];exact P5 _ _ _ (by decide)
 have HP0:=S9 (show ∀w',A5 w w'→Calls Tryz.prog 23 #[.slice A n c,.int .i64 (0),.int .i64 6] w' fun e w''=>e= .returned (.int .i64 (q0:Nat))∧w''=w' from fun w' g=>by have:=HPK.out w' g (0) 6 (by omega) (by decide) (by decide);rw[hq0]at this;exact this);clear hq0;go_enter Tryz.func17,Tryz.ntmps17;go_upto_region 2 with fail;have hb1:=Sc w 9 ((UZ.map Value.string).toArray);have hG1:=(Sa w).alloc (.cells ((UZ.map Value.string).toArray) 9);change Code.wp _ _ _ _ (w.alloc (.cells ((UZ.map Value.string).toArray) 9));generalize w.alloc (.cells ((UZ.map Value.string).toArray) 9)=w1 at*;go_upto_region 3 with fail;have hb2:=Sc w1 51 ((Ur.map Sp).flatten.toArray);have hG2:=hG1.alloc (.cells ((Ur.map Sp).flatten.toArray) 51);have hb12:=hb1.alloc (.cells ((Ur.map Sp).flatten.toArray) 51);change Code.wp _ _ _ _ (w1.alloc (.cells ((Ur.map Sp).flatten.toArray) 51));generalize w1.alloc (.cells ((Ur.map Sp).flatten.toArray) 51)=w2 at*;obtain⟨g1,hg1⟩:∃g,w.heap.size=g:=⟨_,rfl⟩;obtain⟨g2,hg2⟩:∃g,w1.heap.size=g:=⟨_,rfl⟩;have HSm:=S9 (show w.heap.size<w2.heap.size from hb12.lt);rw[hg1]at hb12 ⊢;rw[hg2]at hb2 ⊢;have HB1:=S9 hb12;have HB2:=S9 hb2;have HG2:=S9 hG2;clear hb1 hb2 hb12 hG1 hG2 hg2;go_wp2_with fail;go_loopw [5,6] (fun so i wr=>∃(j:Nat) (ds:List VA) (rows:List (List Value)),j≤q0∧i= .int .i64 (j:Nat)∧BJ wr w2.heap.size 54 12 so rows∧TX Te wr (J6 0 w2.heap.size so wr.heap.size) ds rows∧ds.length=j∧(∀d∈ds,d.2.length≤6)∧A5 w2 wr) (fun _ i _=>q0-(intOf i).toNat)
 case atStart=>exact⟨0,[],[],by omega,rfl,BJ.nil _ _ _ _,TX.nil _ _,rfl,(fun d hd=>nomatch hd),Sa _⟩
 case round=>
  obtain⟨j,ds,rows,hj,rfl,hM,hR,hdl,hd6,hG⟩:=hrel;obtain⟨As,ns,ks,rfl,hns, -⟩:=hM.slice;have HMR:=S9 hM;have HRs:=S9 hR;have HD6:=S9 hd6;have HGW:=S9 (HG2.out.trans hG);have HG:=S9 hG;have HSz:=S9 hG.size;clear hM hR hG hns hd6;by_cases hlt:j<q0
  ·obtain⟨k,hk⟩:∃p,Hm l (4*j+1) 3=p:=⟨_,rfl⟩;obtain⟨u0,hu0⟩:∃p,Hm l (4*j+2) 40=p:=⟨_,rfl⟩;obtain⟨v,hv⟩:∃p,Hm l (4*j+3) 100000=p:=⟨_,rfl⟩;have hk3:k<3:=by rw[←hk];exact P5 _ _ _ (by decide)
   have hu40:u0<40:=by rw[←hu0];exact P5 _ _ _ (by decide)
   have hv5:v<100000:=by rw[←hv];exact P5 _ _ _ (by decide)
   have HPa:=S9 (show ∀w',A5 w w'→Calls Tryz.prog 23 #[.slice A n c,.int .i64 (4*(j:Int)+1),.int .i64 3] w' fun e w''=>e= .returned (.int .i64 (k:Nat))∧w''=w' from fun w' g=>by have:=HPK.out w' g (4*j+1) 3 (by omega) (by decide) (by decide);rw[hk]at this;exact this);have HPb:=S9 (show ∀w',A5 w w'→Calls Tryz.prog 23 #[.slice A n c,.int .i64 (4*(j:Int)+2),.int .i64 40] w' fun e w''=>e= .returned (.int .i64 (u0:Nat))∧w''=w' from fun w' g=>by have:=HPK.out w' g (4*j+2) 40 (by omega) (by decide) (by decide);rw[hu0]at this;exact this);have HPc:=S9 (show ∀w',A5 w w'→Calls Tryz.prog 23 #[.slice A n c,.int .i64 (4*(j:Int)+3),.int .i64 100000] w' fun e w''=>e= .returned (.int .i64 (v:Nat))∧w''=w' from fun w' g=>by have:=HPK.out w' g (4*j+3) 100000 (by omega) (by decide) (by decide);rw[hv]at this;exact this);clear hk hu0 hv;obtain⟨u,hu⟩:∃u,(if 8≤u0 then k else u0)=u:=⟨_,rfl⟩;have hu8:u<8:=by rw[←hu];split<;>omega
   obtain⟨nm,hnm⟩:∃s,UZ[k]? =some s:=⟨_,SF (by show k<3;exact hk3)⟩;obtain⟨un,hun⟩:∃s,Ur[u]? =some s:=⟨_,SF (by show u<8;exact hu8)⟩;have HNm:=S9 (show ∀w',A5 wr w'→w'.cell? ⟨g1,k,none⟩=some (.string nm)from fun w' g=>(((HB1.out.grew HG.out).grew g).cell k).trans (by rw[List.getElem?_toArray,List.getElem?_map,hnm];rfl));have HUn:=S9 (show ∀w',A5 wr w'→w'.rangeAt g2 (u*3) (Sp un)from fun w' g=>((HB2.out.grew HG.out).grew g).rangeN (u*3) (Sp un) (Up u hu8 un hun));clear hnm hun;have hw0:IntKind.i64.wrap (4*(j:Int))=4*(j:Int):=IntWalk.i64_in _ (by omega);have hw1:IntKind.i64.wrap (4*(j:Int)+1)=4*(j:Int)+1:=IntWalk.i64_in _ (by omega);have hw2:IntKind.i64.wrap (4*(j:Int)+2)=4*(j:Int)+2:=IntWalk.i64_in _ (by omega);have hw3:IntKind.i64.wrap (4*(j:Int)+3)=4*(j:Int)+3:=IntWalk.i64_in _ (by omega);have HU:=S9 hu;clear hu;go_upto_if 40 with(first|(go_at_call 23;(with_reducible refine(HP0.out _ HGW.out).mono ?_);rintro e0 wx ⟨rfl,hwx⟩;rw[hwx];clear hwx wx)|(go_at_call 23;(with_reducible refine(HPa.out _ HGW.out).mono ?_);rintro e0 wx ⟨rfl,hwx⟩;rw[hwx];clear hwx wx)|(go_at_call 23;(with_reducible refine(HPb.out _ HGW.out).mono ?_);rintro e0 wx ⟨rfl,hwx⟩;rw[hwx];clear hwx wx));go_cut [8] (fun s8 wx=>s8= .int .i64 (u:Nat)∧wx=wr)
   case first=>
    have hu:=HU.out;by_cases h8:8≤u0
    ·rw[SR h8]at hu;subst hu;go_wp2_with fail;go_meet;exact⟨rfl,rfl⟩
    rw[SQ h8]at hu;subst hu;go_wp2_with fail;go_meet;exact⟨rfl,rfl⟩
   case rest=>
    obtain⟨rfl,rfl⟩:=hcut;have ik1:(0:Int)≤(k:Nat):=by omega
    have ik2:((k:Nat):Int)<3:=by omega
    have iu1:(0:Int)≤(u:Nat):=by omega
    have iu2:((u:Nat):Int)<8:=by omega
    go_upto_region 13 with(first|(go_at_call 23;(with_reducible refine(HPc.out _ HGW.out).mono ?_);rintro e0 wx ⟨rfl,hwx⟩;rw[hwx];clear hwx wx)|(go_at_call 36;refine(Uq _ _ (TT v) (Uw wc 3 ((TT v).map vi)) (Um v hv5) (by simp[TT])).mono ?_;rintro e5 w5 ⟨lv,ls,rfl,hls,hl6,k5⟩;obtain⟨A5d,n5,c5,rfl, -, -⟩:=hls.slice;have HLs:=S9 (SC hls hl6);have HK5:=S9 (((Sa wc).alloc (.cells ((TT v).map vi).toArray 3)).trans k5);have hk5s:=k5.size;clear hls hl6 k5));have gd:A5 w5 w5.drew:=Sd (Sa w5);refine B8 [(12,fun w'=>A5 w5.drew w')] (by kernel_rfl) (by intro pp hp;obtain rfl:=SJ.1 hp;exact Sa _) ?_;intro hcl hkn
    try simp only[Bn]
    refine' B1 (i:=0) (v:=_) rfl (by kernel_rfl) (by kernel_rfl) (by kernel_rfl) hcl hkn (by rfl) (fun _ _ _ h=>h) rfl ?_ ?_
    rotate_left
    ·intro w';go_simp;try with_reducible rfl
    clear hcl hkn;intro hcl hkn
    try simp only[Bn]
    refine' B1 (i:=1) (v:=_) rfl (by kernel_rfl) (by kernel_rfl) (by kernel_rfl) hcl hkn (by rfl) (fun _ _ _ h=>h) rfl ?_ ?_
    rotate_left
    ·intro w';go_simp;try with_reducible rfl
    clear hcl hkn;intro hcl hkn
    try simp only[Bn]
    refine' B1 (i:=2) (v:=_) rfl (by kernel_rfl) (by kernel_rfl) (by kernel_rfl) hcl hkn (by rfl) (fun _ _ _ h=>h) rfl ?_ ?_
    rotate_left
    ·intro w';go_simp;try with_reducible rfl
    clear hcl hkn;intro hcl hkn
    try simp only[Bn]
    refine' B1 (i:=3) (v:=_) rfl (by kernel_rfl) (by kernel_rfl) (by kernel_rfl) hcl hkn (by rfl) (fun _ _ _ h=>h) rfl ?_ ?_
    rotate_left
    ·intro w';go_simp;try with_reducible rfl
    clear hcl hkn;intro hcl hkn
    try simp only[Bn]
    refine' Fq [11,10] 12 _ (i:=4) (v:=_) rfl (by kernel_rfl) (by kernel_rfl) (by kernel_rfl) hcl hkn (by rfl) 0 rfl (by kernel_rfl) (fun _ _ _ h=>h) rfl ?_ ?_
    rotate_left
    ·intro w' hA;have hc:w'.cell? ⟨g1,k,none⟩=some (.string nm):=HNm.out _ (HK5.out.trans (gd.trans hA));go_simp;try with_reducible rfl
    clear hcl hkn;intro hcl hkn
    try simp only[Bn]
    refine' B1 (i:=5) (v:=_) rfl (by kernel_rfl) (by kernel_rfl) (by kernel_rfl) hcl hkn (by rfl) (fun _ _ _ h=>h) rfl ?_ ?_
    rotate_left
    ·intro w';go_simp;try with_reducible rfl
    clear hcl hkn;intro hcl hkn
    try simp only[Bn]
    refine' B1 (i:=6) (v:=_) rfl (by kernel_rfl) (by kernel_rfl) (by kernel_rfl) hcl hkn (by rfl) (fun _ _ _ h=>h) rfl ?_ ?_
    rotate_left
    ·intro w';go_simp;try with_reducible rfl
    clear hcl hkn;intro hcl hkn
    try simp only[Bn]
    refine' B1 (i:=7) (v:=_) rfl (by kernel_rfl) (by kernel_rfl) (by kernel_rfl) hcl hkn (by rfl) (fun _ _ _ h=>h) rfl ?_ ?_
    rotate_left
    ·intro w';go_simp;try with_reducible rfl
    clear hcl hkn;intro hcl hkn
    try simp only[Bn]
    refine' B1 (i:=8) (v:=_) rfl (by kernel_rfl) (by kernel_rfl) (by kernel_rfl) hcl hkn (by rfl) (fun _ _ _ h=>h) rfl ?_ ?_
    rotate_left
    ·intro w';go_simp;try with_reducible rfl
    clear hcl hkn;intro hcl hkn
    try simp only[Bn]
    refine NB [11,10] 12 _ (i:=9) rfl (by kernel_rfl) (by kernel_rfl) (by kernel_rfl) hcl hkn (by rfl) 0 rfl (by kernel_rfl) 51 (.tmp 70) rfl ⟨g2,u*3,none⟩ (by go_simp) (Sp un) _ (fun w' hA=>MT (HUn.out _ (HK5.out.trans (gd.trans hA)))) Tryz.underlying51 rfl V3 (fun _ _ _ h=>h) rfl ?_;clear hcl hkn;intro hcl hkn
    try simp only[Bn]
    refine B1 (i:=10) rfl (by kernel_rfl) (by kernel_rfl) (by kernel_rfl) hcl hkn (by rfl) (fun _ _ _ h=>h) rfl (T3 54 #[(0,.tmp 66),(1,.tmp 67),(2,.tmp 71)] rfl _ _ (UU nm A5d n5 c5 un) (by simp[Act.eval,Act.put])) ?_;clear hcl hkn;intro hcl hkn
    try simp only[Bn]
    refine AV hcl (i:=11) (by kernel_rfl) rfl rfl (fun K hK=>?_);refine TP (.tmp 72) rfl (nm:=nm) (A:=A5d) (n:=n5) (c:=c5) (u:=un) rfl ?_;refine hK _ _ (AJ (.inr ((Sa _).alloc _))) ?_;clear hK K;clear hcl hkn;intro hcl hkn
    try simp only[Bn]
    refine AV hcl (i:=12) (by kernel_rfl) rfl rfl (fun K hK=>?_);refine TY V2 (.tmp 62) (.tmp 73) rfl rfl ((HMR.out.grew (HK5.out.trans gd)).alloc _) rfl (Sc w5.drew 54 (Sn nm (.slice A5d n5 c5) (Ue un)).toArray) (V0 _ _ _ _ _) rfl (by rw[HRs.out.1];omega) (by have h1:=HSz.out;have h2:=(HK5.out.trans gd).size;simp only[World.size_alloc];omega) ?_;intro v8 w8 hM8 k8 ho8;obtain⟨A8,n8,q8,rfl, -, -⟩:=hM8.slice;have HM8:=S9 (SC hM8 (SC (show AC (fun i=>(Value.slice As ns ks).ownBlock=some i) (w5.drew.alloc (.cells (Sn nm (.slice A5d n5 c5) (Ue un)).toArray 54)) w8 from k8) (show(Value.slice A8 n8 q8).ownBlock=(Value.slice As ns ks).ownBlock∨(Value.slice A8 n8 q8).ownBlock=some (w5.drew.alloc (.cells (Sn nm (.slice A5d n5 c5) (Ue un)).toArray 54)).heap.size from ho8)));clear hM8 k8 ho8;refine hK _ _ (AJ (.inl (by kernel_rfl))) ?_;clear hK K;clear hcl hkn;intro hcl hkn
    try simp only[Bn]
    refine AV hcl (i:=13) (by kernel_rfl) rfl rfl (fun K hK=>?_);go_simp;refine hK _ _ (AJ (.inl (by kernel_rfl))) ?_;clear hK K;clear hcl hkn;intro hcl hkn
    try simp only[Bn]
    refine BK (by kernel_rfl) ?_ _;clear hcl hkn;go_wp2_with fail;go_roundw
    case rel=>
     have hsz5:wc.heap.size+1≤w5.heap.size:=by have h1:=hk5s;simp only[World.size_alloc]at h1;exact h1
     have hdc:Te w5.drew (J6 0 w2.heap.size (.slice As ns ks) w5.drew.heap.size) (nm,ls) (Sn nm (.slice A5d n5 c5) (Ue un)):=⟨_,_,rfl,HLs.out.1.keep (S:=fun _=>False) (fun b hb=>⟨hb.2,fun h=>h,.inr (by rcases hb.1 with h|h;omega;have h2:=HSz.out;simp only[World.size_alloc]at h;omega),hb.2,fun e=>by have h2:=(HMR.out.lt b e).2;rcases hb.1 with h|h;omega;simp only[World.size_alloc]at h;omega⟩) gd⟩;exact⟨j+1,ds++[(nm,ls)],_,by omega,by go_num,HM8.out.1,TX.step Tu HRs.out HMR.out HSz.out (HK5.out.trans gd) hdc HM8.out.2.1 HM8.out.2.2,by simp;omega,(fun d hd=>by
      rcases List.mem_append.1 hd with h|h
      ·exact HD6.out d h
      rw[SJ.1 h];exact HLs.out.2),Sb ((HG.out.trans (HK5.out.trans gd)).alloc _) HM8.out.2.1 fun i hi e=>by have:=(HMR.out.lt i e).1;omega⟩
    case measure=>simp[intOf];omega
  obtain rfl:j=q0:=by omega
  go_wp2_with(first|(go_at_call 23;(with_reducible refine(HP0.out _ HGW.out).mono ?_);rintro e0 wx ⟨rfl,hwx⟩;rw[hwx];clear hwx wx));go_ret;exact⟨_,ds,rfl,TX.read HMR.out (HRs.out.keep (S:=fun _=>False) Tu (fun b hb=>⟨hb.2.1,fun h=>h,hb.2.1⟩) (Sa _)) (fun b hb=>(HMR.out.lt b hb).2),by omega,HD6.out,HGW.out⟩
end Go.Proofs.YthpflelgbadkcaaGreatDoor
namespace Go.Proofs.YthpflelgbadkcaaGreatDoor
open Pl
def Tg (b:Ex→Bool) (x:Ex):Nat:=if b x=true then 1 else 0
mutual
theorem T4 (b:Ex→Bool):∀e:Ex,((M1 e).filter b).length=GF (Tg b) e
 | .mk k f w o q n d nm ms bs ks=>by
  rw[M1,GF,List.filter_append,SX,Tc b ks,List.filter_cons];unfold Tg;split
  ·simp;omega
  simp
theorem Tc (b:Ex→Bool):∀es:List Ex,((N0 es).filter b).length=Fe (Tg b) es
 |[]=>by unfold N0 Fe;rfl
 |e::es=>by
  unfold N0 Fe;rw[List.filter_append,SX,T4 b e,Tc b es]
end
theorem U5 {b:Ex→Bool} (h1:∀e,e.kind≠1→b e=false) (h2:∀e ks,b (e.withKids ks)=b e):Qw (Tg b):=
 ⟨fun e h=>by unfold Tg;rw[h1 e h];rfl,fun e ks=>by unfold Tg;rw[h2]⟩
theorem Uh (d:VA):Qw (Tg (Tf d)):=U5 (fun e h=>by unfold Tf;simp[h]) fun e ks=>by cases e;rfl
theorem UC {a b:Ex} (h:Eu a b) (d:VA):So d (M1 a)≤So d (M1 b):=by
 unfold So;rw[T4,T4];exact h.2.2 _ (Uh d)
def Th (r:Int) (x:Ex):Bool:=decide (x.kind=1)&&decide (Sq x=r)
theorem U7 (r:Int):Qw (Tg (Th r)):=U5 (fun e h=>by unfold Th;simp[h]) fun e ks=>by cases e;rfl
theorem Sv:∀(es:List Ex) (r:Int),es.foldl (fun r x=>if x.kind=1 then min r (Sq x)else r) r≤r∧(∀x∈es,x.kind=1→es.foldl (fun r x=>if x.kind=1 then min r (Sq x)else r) r≤Sq x)∧(es.foldl (fun r x=>if x.kind=1 then min r (Sq x)else r) r=r∨∃x∈es,x.kind=1∧Sq x=es.foldl (fun r x=>if x.kind=1 then min r (Sq x)else r) r)
 |[],r=>⟨Int.le_refl _,(fun x h=>nomatch h),.inl rfl⟩
 |a::es,r=>by
  rw[List.foldl_cons];by_cases h1:a.kind=1
  ·rw[SR h1];obtain⟨g1,g2,g3⟩:=Sv es (min r (Sq a));refine⟨by omega,fun x hx hk=>?_,?_⟩
   ·rcases List.mem_cons.1 hx with rfl|hx
    ·omega
    exact g2 x hx hk
   rcases g3 with g3|⟨x,hx,hk,he⟩
   ·by_cases hm:r≤Sq a
    ·left;rw[g3];omega
    right;exact⟨a,List.mem_cons_self,h1,by rw[g3];omega⟩
   right;exact⟨x,List.mem_cons_of_mem _ hx,hk,he⟩
  rw[SQ h1];obtain⟨g1,g2,g3⟩:=Sv es r;refine⟨g1,fun x hx hk=>?_,?_⟩
  ·rcases List.mem_cons.1 hx with rfl|hx
   ·exact absurd hk h1
   exact g2 x hx hk
  rcases g3 with g3|⟨x,hx,hk,he⟩
  ·exact .inl g3
  right;exact⟨x,List.mem_cons_of_mem _ hx,hk,he⟩
theorem Tq {a b:Ex} (h:Eu a b):Ss (M1 b)≤Ss (M1 a):=by
 obtain⟨a1,a2,a3⟩:=Sv (M1 a) 0;obtain⟨b1,b2,b3⟩:=Sv (M1 b) 0;rcases a3 with a3|⟨x,hx,hk,he⟩
 ·show _≤List.foldl _ _ _;rw[a3];exact b1
 have h1:=h.2.2 _ (U7 (Ss (M1 a)));rw[←T4,←T4]at h1;have h2:0<((M1 a).filter (Th (Ss (M1 a)))).length:=by
  apply List.length_pos_of_mem (a:=x);rw[List.mem_filter];exact⟨hx,by unfold Th;rw[hk];simp;exact he⟩
 obtain⟨y,hy⟩:=List.exists_mem_of_length_pos (SE h2 h1);rw[List.mem_filter]at hy;obtain⟨hy1,hy2⟩:=hy;unfold Th at hy2;simp only[Bool.and_eq_true,decide_eq_true_eq]at hy2;rw[←hy2.2];exact b2 y hy1 hy2.1
end Go.Proofs.YthpflelgbadkcaaGreatDoor
namespace Go.Proofs.YthpflelgbadkcaaGreatDoor
open Go.RowKit Go.Shelf Pl
theorem V7 {e:Ex} (h:Cm e):EH e:=BL.mono (fun _ h=>⟨⟨h.1.1,EA (Ci h.2)⟩,LL h.1 h.2,SH h.1.2.2.2.2.1 (by decide),SH h.1.2.2.2.2.2 (by decide)⟩) (AL e) e (SD _) h
theorem St {e:Ex} (h:Cm e):BL Be e:=BL.mono (fun _ h=>h.1) (AL e) e (SD _) h
theorem Uc {e:Ex} (h:Cm e) (hn:AL e≤200) (hd:BF e≤12):Ca e=0:=by
 unfold Ca;rw[SQ (by omega),(Eh _ e (SD _)).2 (BL.mono (fun _ h=>h.2) (AL e) e (SD _) h)]
theorem TJ {w w':World} {v:Value} {es:List Ex} (h:Su w (fun b=>b<w.heap.size) v es) (g:A5 w w'):Su w' (fun b=>b<w'.heap.size) v es:=h.keep (S:=fun _=>False) (fun b hb=>⟨hb,fun h=>h,SE hb g.size⟩) g
theorem Ul {w w':World} {v:Value} {es:List VA} (h:TG w (fun b=>b<w.heap.size) v es) (g:A5 w w'):TG w' (fun b=>b<w'.heap.size) v es:=h.keep (S:=fun _=>False) (fun b hb=>⟨hb,fun h=>h,SE hb g.size⟩) g
theorem U1 {ds:List VA} {es:List Ex} {k:Nat} {d:VA} (h:ds[k]? =some d):(TA ds es)[k]? =some (So d es):=by unfold TA;rw[List.getElem?_map,h];rfl
theorem UD (w:World) (vm v:Value) (ml l:List Int) (hm:Rd w w.heap.size vm (ml.map vi)) (hml:∀x∈ml,Bc x) (hmll:ml.length≤1000000000000000) (hr:Rd w w.heap.size v (l.map vi)) (hl:∀x∈l,Bc x) (hll:l.length≤1000000000000000) (ht:D0 w):
  Calls Tryz.prog 4 #[vm,v] w fun e w'=>e= .returned (.bool true)∧A5 w w':=by
 obtain⟨Am,nm,cm,rfl,hnm,hcm⟩:=hm.form;obtain⟨A,n,cp,rfl,hn,hcp⟩:=hr.form;have HD:=S9 (To w _ ml hm hml hmll);have HQ:=S9 (fun w' (g:A5 w w')=>NS w' _ l ((hr.grew (SD _) g).more g.size) hl hll);have HT:=S9 (fun w' (g:A5 w w')=>show D0 w' from⟨ht.1.grew g,ht.2.1.keep g (fun h=>h),ht.2.2.keep g (fun h=>h)⟩);clear hm hml hmll hr hl hll ht hn hcp hnm hcm;go_enter Tryz.func4,Tryz.ntmps4;go_upto_region 2 with(first|(go_at_call 17;(with_reducible refine HD.out.mono ?_);rintro e1 w1 ⟨dv,ds,rfl,hds,hd6,hdl,k1⟩;obtain⟨Ad,nd,cd,rfl,hnd, -⟩:=hds.slice;have HDs:=S9 hds;have HDl:=S9 (SC hd6 hdl);have HNd:=S9 hnd;have HG1:=S9 k1;clear hds hd6 hdl k1 hnd));go_upto_region 3 with(first|(go_at_call 7;(with_reducible refine(HQ.out _ HG1.out).mono ?_);rintro e3 wc ⟨t1,cs1,rfl,h1,ok1,kc⟩;have h1l:=h1.loose.len;have h1o:=Al h1.loose)|((with_reducible refine AF 29 (.tmp 6) (.tmp 17) rfl ?_);refine Ar 29 (.tmp 6) (.tmp 17) (wc.heap.size) cs1 (AH 0 0) 29 (by rw[h1l];exact AD) (by rw[h1l];rfl) h1o rfl rfl rfl rfl (Sc wc 29 _) ?_;intro wd b1 k1 d1;have g1:A5 wc wd:=Sb ((Sa wc).alloc _) k1 (fun i hi e=>by omega)));have HG2:=S9 ((HG1.out.trans kc).trans g1);have HG12:=S9 (kc.trans g1);have hre1:BZ wd wd.heap.size t1 cs1:=AW.toB (B:=wd.heap.size) (Q:=CW 0 w1.heap.size wc.heap.size) (fun b hb=>SE hb.2 g1.size) _ _ (h1.loose.grewQ (fun b hb=>hb.2) g1);have HR1:=S9 hre1;have HB1:=S9 b1;have HO1:=S9 h1o;have HL1:=S9 h1l;have hgood:Cm t1:=ok1.2.2;have hn1:AL t1≤200:=SH ok1.1 (by decide);have hd1:BF t1≤12:=SH ok1.2.1 (by decide);have hv1:=Uc hgood hn1 hd1;have hs:=FU (AL t1) t1 (SD _) hgood;have hn2:AL (Ah t1)≤200:=SH hs.2.1.1 hn1;have hv2:=Uc hs.1 hn2 (SH hs.2.1.2.1 hd1);have HLe:=S9 hs.2.1;have HC1:=S9 (TE t1 hn1 (St hgood) hv1 wd cs1 (HT.out _ HG2.out).1 hre1);have HRw:=S9 (fun w' (g:A5 wd w')=>Md t1 (by omega) (St hgood) (V7 hgood) hv1 (St hs.1) w' cs1 (HT.out _ (HG2.out.trans g)).1 (HT.out _ (HG2.out.trans g)).2.2 (hre1.grew g));have HC2:=S9 (fun w' c (g:A5 wd w') (h:BZ w' w'.heap.size (Ah t1) c)=>TE (Ah t1) hn2 (St hs.1) hv2 w' c (HT.out _ (HG2.out.trans g)).1 h);have HX1:=S9 (fun w' v' (g:A5 wd w') (h:Su w' (fun b=>b<w'.heap.size) v' (M1 t1))=>TR t1 (St hgood) hv1 w' v' (HT.out _ (HG2.out.trans g)).1 h);have HX2:=S9 (fun w' v' (g:A5 wd w') (h:Su w' (fun b=>b<w'.heap.size) v' (M1 (Ah t1)))=>TR (Ah t1) (St hs.1) hv2 w' v' (HT.out _ (HG2.out.trans g)).1 h);have HDd:=S9 (show ∀w',A5 wd w'→TG w' (fun b=>b<w'.heap.size) (.slice Ad nd cd) ds from fun w' g=>Ul HDs.out (HG12.out.trans g));have HU1:=S9 (fun w' v' (g:A5 wd w') (h:Su w' (fun b=>b<w'.heap.size) v' (M1 t1))=>Td t1 (St hgood) hv1 w' v' _ ds (HT.out _ (HG2.out.trans g)).1 h (HDd.out _ g) (by have:=HDl.out.1;omega) (fun d hd=>SH (HDl.out.2 d hd) (by decide)));have HU2:=S9 (fun w' v' (g:A5 wd w') (h:Su w' (fun b=>b<w'.heap.size) v' (M1 (Ah t1)))=>Td (Ah t1) (St hs.1) hv2 w' v' _ ds (HT.out _ (HG2.out.trans g)).1 h (HDd.out _ g) (by have:=HDl.out.1;omega) (fun d hd=>SH (HDl.out.2 d hd) (by decide)));rw[←HNd.out]at HU1 HU2;clear h1 h1o h1l ok1 kc b1 k1 d1 g1 hgood hn1 hd1 hv1 hs hn2 hv2 hre1 HQ HD;go_upto_region 4 with(first|((with_reducible refine AG 29 (.tmp 6) rfl ?_);refine BR 29 Tryz.underlying29 rfl (.tmp 6) (wc.heap.size) cs1 29 (by rw[HL1.out];exact AD) rfl rfl rfl HB1.out ?_)|(go_at_call 18;(with_reducible refine HC1.out.mono ?_);rintro e4 we ⟨v1,rfl,hp1,ke⟩;obtain⟨Ap,np,cpp,rfl, -, -⟩:=hp1.slice;have HP1:=S9 hp1;have HGe:=S9 ke;have HBe:=S9 (HB1.out.grew ke);clear hp1 ke));go_upto_region 5 with(first|((with_reducible refine AG 29 (.tmp 6) rfl ?_);refine BR 29 Tryz.underlying29 rfl (.tmp 6) (wc.heap.size) cs1 29 (by rw[HL1.out];exact AD) rfl rfl rfl HBe.out ?_)|(go_at_call 8;(with_reducible refine(HRw.out _ HGe.out).mono ?_);rintro e5 wf ⟨c2,rfl,hr2,kf⟩;have HR2:=S9 (AW.toB (fun b hb=>hb.2) _ _ hr2);have HGf:=S9 (HGe.out.trans kf);have HGef:=S9 kf;clear hr2 kf)|(go_at_call 18;(with_reducible refine(HC2.out _ _ HGf.out HR2.out).mono ?_);rintro e6 wg ⟨v2,rfl,hp2,kg⟩;obtain⟨Aq,nq,cq,rfl, -, -⟩:=hp2.slice;have HP2:=S9 hp2;have HGg:=S9 (HGf.out.trans kg);have HP1g:=S9 (TJ HP1.out (HGef.out.trans kg));clear hp2 kg));have hreach:=Tq HLe.out;have HUl:=S9 (fun d=>UC HLe.out d);have HXa:=S9 (HX2.out _ _ HGg.out HP2.out);have HXb:=S9 (fun w' (g:A5 wg w')=>HX1.out w' _ (HGg.out.trans g) (TJ HP1g.out g));have HUa:=S9 (fun w' (g:A5 wg w')=>HU1.out w' _ (HGg.out.trans g) (TJ HP1g.out g));have HUb:=S9 (fun w' (g:A5 wg w')=>HU2.out w' _ (HGg.out.trans g) (TJ HP2.out g));have HGw:=S9 (HG2.out.trans HGg.out);clear HX1 HX2 HU1 HU2 HC1 HC2 HRw HR1 HR2 HB1 HBe HP1 HP2 HP1g HGe HGf HGef HGg HLe HO1 HL1;obtain⟨R1,hR1⟩:∃r,Ss (M1 t1)=r:=⟨_,rfl⟩;obtain⟨R2,hR2⟩:∃r,Ss (M1 (Ah t1))=r:=⟨_,rfl⟩;rw[hR1]at hreach HXb;rw[hR2]at hreach HXa;clear hR1 hR2;generalize M1 (Ah t1)=p2 at*;generalize M1 t1=p1 at*;have q1:decide (R2<R1)=false:=by rw[decide_eq_false_iff_not];omega
 have q2:¬(R2<R1):=by omega
 go_upto_region 7 with(first|(go_at_call 19;(with_reducible refine HXa.out.mono ?_);rintro e7 wh ⟨rfl,kh⟩;have HGh:=S9 kh;clear kh)|(go_at_call 19;(with_reducible refine(HXb.out _ HGh.out).mono ?_);rintro e8 wi ⟨rfl,ki⟩;have HGi:=S9 (HGh.out.trans ki);clear ki));go_upto_region 9 with(first|(go_at_call 20;(with_reducible refine(HUa.out _ HGi.out).mono ?_);rintro e9 wj ⟨ga,rfl,hba,hga,kj⟩;have HBa:=S9 hba;have HGj:=S9 (HGi.out.trans kj);clear hba hga kj)|(go_at_call 20;(with_reducible refine(HUb.out _ HGj.out).mono ?_);rintro e10 wk ⟨gb,rfl,hbb,hgb,kk⟩;have HBb:=S9 hbb;have HBa2:=S9 (HBa.out.grew kk);have HGk:=S9 (HGw.out.trans (HGj.out.trans kk));clear hbb hgb kk));have hnd6:nd≤6:=by rw[HNd.out];exact HDl.out.1
 go_wp2_with fail;go_loopw [13] (fun i wr=>∃(k:Nat),k≤nd∧i= .int .i64 (k:Nat)∧A5 wk wr) (fun i _=>nd-(intOf i).toNat)
 case atStart=>exact⟨0,by omega,rfl,Sa _⟩
 case round=>
  obtain⟨k,hk,rfl,hg⟩:=hrel;have HG:=S9 hg;clear hg;by_cases hlt:k<nd
  ·obtain⟨d,hd⟩:∃d,ds[k]? =some d:=⟨_,SF (by rw[←HNd.out];exact hlt)⟩;obtain⟨ca,hca⟩:∃c,So d p1=c:=⟨_,rfl⟩;obtain⟨cb,hcb⟩:∃c,So d p2=c:=⟨_,rfl⟩;have hle:cb≤ca:=by rw[←hca,←hcb];exact HUl.out d
   have HCa:=S9 (show ∀w',A5 wr w'→w'.cell? ⟨ga,k,none⟩=some (.int .i64 (ca:Nat))from fun w' g=>(((HBa2.out.grew HG.out).grew g).cell k).trans (by rw[List.getElem?_toArray,List.getElem?_map,U1 hd,hca];rfl));have HCb:=S9 (show ∀w',A5 wr w'→w'.cell? ⟨gb,k,none⟩=some (.int .i64 (cb:Nat))from fun w' g=>(((HBb.out.grew HG.out).grew g).cell k).trans (by rw[List.getElem?_toArray,List.getElem?_map,U1 hd,hcb];rfl));clear hd hca hcb;have q3:decide ((ca:Int)<(cb:Int))=false:=by rw[decide_eq_false_iff_not];omega
   have q4:¬(ca<cb):=by omega
   have q5:decide (ca<cb)=false:=by rw[decide_eq_false_iff_not];omega
   go_upto_region 14 with fail;have gd:A5 wr wr.drew:=Sd (Sa wr);refine B8 [(8,fun w'=>A5 wr.drew w')] (by kernel_rfl) (by intro pp hp;obtain rfl:=SJ.1 hp;exact Sa _) ?_;intro hcl hkn
   try simp only[Bn]
   refine' B1 (i:=0) (v:=_) rfl (by kernel_rfl) (by kernel_rfl) (by kernel_rfl) hcl hkn (by rfl) (fun _ _ _ h=>h) rfl ?_ ?_
   rotate_left
   ·intro w';go_simp;try with_reducible rfl
   clear hcl hkn;intro hcl hkn
   try simp only[Bn]
   refine' B1 (i:=1) (v:=_) rfl (by kernel_rfl) (by kernel_rfl) (by kernel_rfl) hcl hkn (by rfl) (fun _ _ _ h=>h) rfl ?_ ?_
   rotate_left
   ·intro w';go_simp;try with_reducible rfl
   clear hcl hkn;intro hcl hkn
   try simp only[Bn]
   refine' B1 (i:=2) (v:=_) rfl (by kernel_rfl) (by kernel_rfl) (by kernel_rfl) hcl hkn (by rfl) (fun _ _ _ h=>h) rfl ?_ ?_
   rotate_left
   ·intro w';go_simp;try with_reducible rfl
   clear hcl hkn;intro hcl hkn
   try simp only[Bn]
   refine' Fq [] 8 _ (i:=3) (v:=_) rfl (by kernel_rfl) (by kernel_rfl) (by kernel_rfl) hcl hkn (by rfl) 0 rfl (by kernel_rfl) (fun _ _ _ h=>h) rfl ?_ ?_
   rotate_left
   ·intro w' hA;have hc:w'.cell? ⟨gb,k,none⟩=some (.int .i64 (cb:Nat)):=HCb.out _ (gd.trans hA);go_simp;try with_reducible rfl
   clear hcl hkn;intro hcl hkn
   try simp only[Bn]
   refine' B1 (i:=4) (v:=_) rfl (by kernel_rfl) (by kernel_rfl) (by kernel_rfl) hcl hkn (by rfl) (fun _ _ _ h=>h) rfl ?_ ?_
   rotate_left
   ·intro w';go_simp;try with_reducible rfl
   clear hcl hkn;intro hcl hkn
   try simp only[Bn]
   refine' B1 (i:=5) (v:=_) rfl (by kernel_rfl) (by kernel_rfl) (by kernel_rfl) hcl hkn (by rfl) (fun _ _ _ h=>h) rfl ?_ ?_
   rotate_left
   ·intro w';go_simp;try with_reducible rfl
   clear hcl hkn;intro hcl hkn
   try simp only[Bn]
   refine' B1 (i:=6) (v:=_) rfl (by kernel_rfl) (by kernel_rfl) (by kernel_rfl) hcl hkn (by rfl) (fun _ _ _ h=>h) rfl ?_ ?_
   rotate_left
   ·intro w';go_simp;try with_reducible rfl
   clear hcl hkn;intro hcl hkn
   try simp only[Bn]
   refine' Fq [] 8 _ (i:=7) (v:=_) rfl (by kernel_rfl) (by kernel_rfl) (by kernel_rfl) hcl hkn (by rfl) 0 rfl (by kernel_rfl) (fun _ _ _ h=>h) rfl ?_ ?_
   rotate_left
   ·intro w' hA;have hc:w'.cell? ⟨ga,k,none⟩=some (.int .i64 (ca:Nat)):=HCa.out _ (gd.trans hA);go_simp;try with_reducible rfl
   clear hcl hkn;intro hcl hkn
   try simp only[Bn]
   refine AV hcl (i:=8) (by kernel_rfl) rfl rfl (fun K hK=>?_);go_simp;refine hK _ _ (AJ (.inl (by kernel_rfl))) ?_;clear hK K;clear hcl hkn;intro hcl hkn
   try simp only[Bn]
   refine BK (by kernel_rfl) ?_ _;clear hcl hkn;go_wp2_with fail;go_roundw
   case rel=>exact⟨k+1,by omega,by go_num,HG.out.trans gd⟩
   case measure=>simp[intOf];omega
  obtain rfl:k=nd:=by omega
  have HLv:=S9 (Kq wr (HT.out _ (HGk.out.trans HG.out)));go_wp2_with(go_at_call 16;(with_reducible refine HLv.out.mono ?_);rintro e11 wl ⟨rfl,kl⟩;have HGl:=S9 ((HGk.out.trans HG.out).trans kl);clear kl);go_ret;exact⟨rfl,HGl.out⟩
end Go.Proofs.YthpflelgbadkcaaGreatDoor
