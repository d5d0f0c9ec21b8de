/- What the card of the law stands on: GenPl, GenB. -/
import Derived.Test.YthpflelgbadkcaaGreatDoorRewriteSizeP19
import Derived.Test.YthpflelgbadkcaaGreatDoorRewriteSizeP01
import Derived.Great.BuildSlice
set_option maxRecDepth 100000
set_option maxHeartbeats 12800000
set_option linter.unusedVariables false
set_option linter.unusedSimpArgs false
namespace Go.Proofs.YthpflelgbadkcaaGreatDoor
open Go.RowKit Pl
def QT (e:Ex):Prop:=Be e∧Bj e=0
def Cf (N D:Nat) (e:Ex):Prop:=AL e≤N∧BF e≤D∧BL QT e
theorem Cf.more {N D N' D':Nat} {e:Ex} (h:Cf N D e) (hN:N≤N') (hD:D≤D'):Cf N' D' e:=⟨SH h.1 hN,SH h.2.1 hD,h.2.2⟩
theorem Oa {n d:Int} (h:B2 n d=true):Bj (BG n d)=0:=by
 have h1:BN (BG n d)=true:=by simp[BN,BG,Ex.kind,Ex.fn,Ex.kids,Ex.num,Ex.den,Ex.window,Ex.offset,Ex.name,Ex.ms,Ex.k,Ex.bys,h];rfl
 have h2:Bo (BG n d)=true:=by simp[Bo,BG,Ex.kind,Ex.ms,Ex.bys,IA]
 have h3:Ai (BG n d)=true:=by simp[Ai,BG,Ex.kind,Ex.k]
 unfold Bj;rw[h1,h2,h3];rfl
theorem F8 {n d:Int} (h:B2 n d=true):Cf 1 1 (BG n d):=by
 refine⟨SD _,SD _,BA.2 ⟨⟨⟨?_,Hz n d⟩,Oa h⟩,fun k hk=>nomatch hk⟩⟩;have z0:Bc 0:=CR.1;have hv:=BT h;exact⟨z0,z0,z0,z0,z0,by unfold Bc;show _≤n∧n≤_;omega,by unfold Bc;show _≤d∧d≤_;omega⟩
theorem Oi {f:Int} (h:0≤f∧f≤3) (a b:Ex):Bj (BB f a b)=0:=by
 have h1:BN (BB f a b)=true:=by simp[BN,BB,Ex.kind,Ex.fn,Ex.kids,Ex.num,Ex.den,Ex.window,Ex.offset,Ex.name,Ex.ms,Ex.k,Ex.bys,h];rfl
 have h2:Bo (BB f a b)=true:=by simp[Bo,BB,Ex.kind,Ex.ms,Ex.bys,IA]
 have h3:Ai (BB f a b)=true:=by simp[Ai,BB,Ex.kind,Ex.k]
 unfold Bj;rw[h1,h2,h3];rfl
theorem JP:Li ⟨#[]⟩:=⟨fun i h=>absurd h (by show ¬i<0;omega),by show 0≤1000;omega⟩
theorem B7 {f:Int} (h:0≤f∧f≤3) {a b:Ex} {N1 D1 N2 D2:Nat} (ha:Cf N1 D1 a) (hb:Cf N2 D2 b):Cf (1+N1+N2) (1+max D1 D2) (BB f a b):=by
 refine⟨?_,?_,BA.2 ⟨⟨⟨?_,JP,(fun m hm=>nomatch hm),(fun m hm=>nomatch hm),Nat.zero_le _,Nat.zero_le _⟩,Oi h a b⟩,fun k hk=>?_⟩⟩
 ·show 1+(AL a+(AL b+0))≤_;have:=ha.1;have:=hb.1;omega
 ·show max (BF a) (max (BF b) 0)+1≤_;have:=ha.2.1;have:=hb.2.1;omega
 ·have z0:Bc 0:=CR.1;exact⟨by unfold Bc;show _≤(3:Int)∧(3:Int)≤_;omega,by unfold Bc;show _≤f∧f≤_;omega,z0,z0,z0,z0,z0⟩
 rcases List.mem_cons.1 hk with rfl|hk
 ·exact ha.2.2
 obtain rfl:=SJ.1 hk;exact hb.2.2
def Cw (g B:Nat) (v:Value) (l:List Int) (M N D i C:Nat) (w:World) (e:Ending) (w':World):Prop:=
 ∃(t:Ex) (cs:List Value) (i':Nat),e= .returned (.agg cs.toArray)∧Ax w' (CW 0 M w'.heap.size) t cs∧Cf N D t∧GS w' g B v l i'∧i'≤i+C∧AC (fun b=>b=g) w w'
theorem Js (w:World) (Q:Nat→Prop) (x y:Int):Ax w Q (BG x y) (AH x y):=Ax.mk_ (e:=BG x y) (CI.nil _ _ _) (CI.nil _ _ _) (EK.nil _ _)
def QA (w:World) (Q:Nat→Prop) (t:Ex) (e:Ending) (w':World):Prop:=∃cs,e= .returned (.agg cs.toArray)∧Ax w' (fun b=>Q b∨w.heap.size≤b∧b<w'.heap.size) t cs∧A5 w w'
def Fx (f:Int) (z:Nat):List Value:=[.int .i64 3,.int .i64 f,.int .i64 0,.int .i64 0,.int .i64 0,.int .i64 0,.int .i64 0,.string ⟨#[]⟩,.slice none 0 0,.slice none 0 0,.slice (some ⟨z,0,none⟩) 2 2]
theorem Dg (f:Int) (z:Nat):∀v∈Fx f z,v.oneCell'=true:=by
 intro v hv;simp[Fx]at hv;rcases hv with rfl|rfl|rfl|rfl|rfl|rfl<;>rfl
theorem OY (ea eb:Ex) (a1 a2 a3 b1 b2 b3:Value):Instr.fill (fun i=>some (i*11,11)) ((Array.range (2*11)).map (F6.cells[·%F6.cells.size]!)) [(0,.agg (AE ea a1 a2 a3).toArray),(1,.agg (AE eb b1 b2 b3).toArray)]=some ((AE ea a1 a2 a3)++(AE eb b1 b2 b3)).toArray:=by kernel_rfl
theorem Oc (ea:Ex) (a1 a2 a3:Value):Instr.fill (fun i=>some (i*11,11)) ((Array.range (1*11)).map (F6.cells[·%F6.cells.size]!)) [(0,.agg (AE ea a1 a2 a3).toArray)]=some (AE ea a1 a2 a3).toArray:=by kernel_rfl
theorem ES {P:Program} {ops:Array Oper} {rest:List Oper} {o:Oper} {a:Act} {Q:Exit→Act→World→Prop} {w:World} (T:TypeId) (n:Nat) (l:Array (Nat×Operand)) (_:o.op= .buildSlice T n l) (h:wpList P ops Q (o::rest) a w):wpList P ops Q (o::rest) a w:=h
theorem Di {ops:Array Oper} {rest:List Oper} {o:Oper} {a:Act} {Q:Exit→Act→World→Prop} {w:World} (hgd:o.guard=none) (x y:Operand) (ho:o.op= .buildSlice 27 2 #[(0,x),(1,y)]) {ea eb:Ex} {a1 a2 a3 b1 b2 b3:Value} (hx:a.eval x= .agg (AE ea a1 a2 a3).toArray) (hy:a.eval y= .agg (AE eb b1 b2 b3).toArray)
  (h:∀w',Ag w' w.heap.size 29 ((AE ea a1 a2 a3)++(AE eb b1 b2 b3)).toArray→A5 w w'→wpList Tryz.prog ops Q rest (a.put o.dst (.slice (some ⟨w.heap.size,0,none⟩) 2 2)) w'):wpList Tryz.prog ops Q (o::rest) a w:=by
 obtain⟨i,hi,hz,hs,hby⟩:=info_parts R6.info;refine wpList_buildSlice hgd 27 29 2 #[(0,x),(1,y)] ho ((AE ea a1 a2 a3)++(AE eb b1 b2 b3)).toArray i F6 Tryz.underlying27 hi hz (by rw[hs];decide) (by rw[hs];decide) ?_ (h _ (Sc w 29 _) ((Sa w).alloc _));rw[hs];simp only[List.map_toArray,List.map_cons,List.map_nil,hx,hy];exact OY ea eb a1 a2 a3 b1 b2 b3
theorem Jb (f:Int) (ea eb:Ex) (ca cb:List Value) (w:World) (Q:Nat→Prop) (hQ:∀b,Q b→b<w.heap.size) (ha:Ax w Q ea ca) (hb:Ax w Q eb cb):
  Calls Tryz.prog 54 #[.int .i64 f,.agg ca.toArray,.agg cb.toArray] w (QA w Q (BB f ea eb)):=by
 have HA:=S9 (SC ha hb);have hca:=AY ha;have hcb:=AY hb;obtain⟨a1,a2,a3,rfl, -⟩:=ha.open_;obtain⟨b1,b2,b3,rfl, -⟩:=hb.open_;obtain⟨hb1,hb2,hb3,hG⟩:=Cb w 29 29 29 (AE ea a1 a2 a3).toArray (AE eb b1 b2 b3).toArray (AH 0 0).toArray;have hs:(((w.alloc (.cells (AE ea a1 a2 a3).toArray 29)).alloc (.cells (AE eb b1 b2 b3).toArray 29)).alloc (.cells (AH 0 0).toArray 29)).heap.size=w.heap.size+3:=by simp
 have hl1:=Ck ea a1 a2 a3;have hl2:=Ck eb b1 b2 b3;have HQ:=S9 hQ;clear ha hb hQ;go_enter Tryz.func54,Tryz.ntmps54;go_upto_region 1 with fail;change Code.wp _ _ _ _ (((w.alloc (.cells (AE ea a1 a2 a3).toArray 29)).alloc (.cells (AE eb b1 b2 b3).toArray 29)).alloc (.cells (AH 0 0).toArray 29));generalize ((w.alloc (.cells (AE ea a1 a2 a3).toArray 29)).alloc (.cells (AE eb b1 b2 b3).toArray 29)).alloc (.cells (AH 0 0).toArray 29)=w1 at*;have HS:=S9 hs;have HG:=S9 hG;clear hs hG;go_wp2_with(first|((with_reducible refine AG 29 (.tmp 4) rfl ?_);refine BR 29 Tryz.underlying29 rfl (.tmp 4) (w.heap.size) (AE ea a1 a2 a3) 29 AD rfl rfl rfl hb1 ?_)|((with_reducible refine AG 29 (.tmp 5) rfl ?_);refine BR 29 Tryz.underlying29 rfl (.tmp 5) (w.heap.size+1) (AE eb b1 b2 b3) 29 AD rfl rfl rfl hb2 ?_)|((with_reducible refine ES 27 2 #[(0,.tmp 8),(1,.tmp 9)] rfl ?_);refine Di rfl (.tmp 8) (.tmp 9) rfl rfl rfl ?_;intro w2 hbk g2;have hb32:=hb3.grew g2;have HBK:=S9 hbk;clear hbk)|((with_reducible refine AF 29 (.tmp 6) (.tmp 11) rfl ?_);refine Ar 29 (.tmp 6) (.tmp 11) (w.heap.size+1+1) (Fx f w1.heap.size) (AH 0 0) 29 AD rfl (Dg _ _) rfl rfl rfl rfl hb32 ?_;intro w8 hb8 k8 d8));refine bodyPost_ret (AP rfl rfl AD Tryz.underlying29 rfl hb8) rfl ?_;obtain⟨ha,hb⟩:=HA.out;have hs:=HS.out;have hsz:=k8.size;have hz2:=HBK.out.lt;have hg8:A5 w w8:=Sb (HG.out.trans g2) k8 (fun i hi e=>by omega);have hbk8:=HBK.out.keep k8 (by omega);refine⟨Fx f w1.heap.size,rfl,?_,hg8⟩;refine Ax.mk_ (e:=BB f ea eb) (CI.nil _ _ _) (CI.nil _ _ _) ⟨_,2,rfl,⟨SD _,SD _⟩,fun _=>⟨w1.heap.size,0,rfl,.inr ⟨by omega,by omega⟩,By.of fun j e' hj=>?_⟩⟩;rcases j with _|_|j
 ·obtain rfl:ea=e':=by simpa[BB,Ex.kids]using hj
  exact⟨_,hbk8.rangeN 0 _ rfl,Ax.keep (S:=fun _=>False) (fun b hb=>⟨HQ.out b hb,fun h=>h,.inl hb⟩) hg8 _ _ ha⟩
 ·obtain rfl:eb=e':=by simpa[BB,Ex.kids]using hj
  exact⟨_,hbk8.rangeN 11 _ rfl,Ax.keep (S:=fun _=>False) (fun b hb=>⟨HQ.out b hb,fun h=>h,.inl hb⟩) hg8 _ _ hb⟩
 simp[BB,Ex.kids]at hj
end Go.Proofs.YthpflelgbadkcaaGreatDoor
