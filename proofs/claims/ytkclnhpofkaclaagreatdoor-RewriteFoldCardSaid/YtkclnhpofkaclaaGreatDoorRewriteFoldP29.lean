/- What the card of the law stands on: Wr1, Wr2, Wr3, Print. -/
import Derived.Test.YtkclnhpofkaclaaGreatDoorRewriteFoldP01
import Derived.Test.YtkclnhpofkaclaaGreatDoorRewriteFoldP16
import Derived.Test.YtkclnhpofkaclaaGreatDoorRewriteFoldP28
import Derived.Test.YtkclnhpofkaclaaGreatDoorRewriteFoldP27
import Derived.Test.YtkclnhpofkaclaaGreatDoorRewriteFoldP04
import Derived.Test.YtkclnhpofkaclaaGreatDoorRewriteFoldP19
set_option maxRecDepth 100000
set_option maxHeartbeats 12800000
set_option linter.unusedVariables false
set_option linter.unusedSimpArgs false
namespace Go.Proofs.YtkclnhpofkaclaaGreatDoor
open Go.RowKit Pl
def WS (w:World) (base g:Nat) (bs:List Nat):Prop:=base≤g∧base≤w.heap.size∧∃p v,SB w base g p v bs
theorem WS.grew {w w':World} {base g:Nat} {bs:List Nat} (h:WS w base g bs) (k:A5 w w'):WS w' base g bs:=by
 obtain⟨h1,h2,p,v,hb⟩:=h;exact⟨h1,Ue h2 k.size,p,v,hb.box.grew k,hb.row.grew k,hb.self⟩
def KB (w w':World):Prop:=∀k t xs,AK w k t xs→t≠100→t≠5→AK w' k t xs
theorem KB.trans {a b c:World} (h:KB a b) (k:KB b c):KB a c:=fun i t xs hb h1 h2=>k i t xs (h i t xs hb h1 h2) h1 h2
theorem KB.grew {w w':World} (h:A5 w w'):KB w w':=fun i t xs hb _ _=>hb.grew h
def Fi (base g:Nat) (bs:List Nat) (w:World) (e:Ending) (w':World):Prop:=(∃u,e= .returned u)∧WS w' base g bs∧A4 (fun i=>base≤i) w w'∧KB w w'
theorem Gy (w:World) (base g:Nat) (bs:List Nat) (s:ByteArray) (h:WS w base g bs) (hl:bs.length<900000000) (hs:s.size≤1000000):Calls Tryz.prog 125 #[.pointer (some ⟨g,0,none⟩),.string s] w (Fi base g (bs++bl s) w):=by
 obtain⟨h1,h2,p,v,hb⟩:=h;refine(Hu g base p v bs s w hb hl hs h2).mono ?_;rintro e w' ⟨he,p',v',hb',hk⟩;have hk':=hb.keepsB h1 hk;exact⟨he,⟨h1,Ue h2 hk'.size,p',v',hb'⟩,hk',fun i t xs hbx h1 h2=>AK.keepSB hbx hb hk h1 h2⟩
theorem Ix (w:World) (base g:Nat) (bs:List Nat) (c:Nat) (h:WS w base g bs) (hl:bs.length<900000000):Calls Tryz.prog 156 #[.pointer (some ⟨g,0,none⟩),.int .u8 (c:Nat)] w (Fi base g (bs++[c]) w):=by
 obtain⟨h1,h2,p,v,hb⟩:=h;refine(J4 g base p v bs c w hb hl h2).mono ?_;rintro e w' ⟨rfl,p',v',hb',hk⟩;have hk':=hb.keepsB h1 hk;exact⟨⟨_,rfl⟩,⟨h1,Ue h2 hk'.size,p',v',hb'⟩,hk',fun i t xs hbx h1 h2=>AK.keepSB hbx hb hk h1 h2⟩
theorem LX (n:Nat) (hn:n<10) (w:World):Calls Tryz.prog 154 #[.agg (AA (n:Nat) 1).toArray] w fun e w'=>e= .returned (.bool true)∧A5 w w':=by
 have t1:decide ((n:Int)≥0)=true:=by rw[decide_eq_true_iff];omega
 have t2:decide ((n:Int)≤1073741824)=true:=by rw[decide_eq_true_iff];omega
 have hb:=Ux w 24 (AA (n:Nat) 1).toArray;have hg:=(Uv w).alloc (.cells (AA (n:Nat) 1).toArray 24);go_enter Tryz.func154,Tryz.ntmps154;go_upto_region 1 with fail;change Code.wp _ _ _ _ (w.alloc (.cells (AA (n:Nat) 1).toArray 24));generalize w.alloc (.cells (AA (n:Nat) 1).toArray 24)=w1 at*;have c0:w1.cell? ⟨w.heap.size,0,none⟩=some (.int .i64 (n:Nat)):=hb.cell 0;have c1:w1.cell? ⟨w.heap.size,1,none⟩=some (.int .i64 1):=hb.cell 1;have HG:=UX hg;clear hb hg hn;go_wp2_with fail;go_ret;exact⟨rfl,HG.out⟩
theorem Ob (w:World) (base g:Nat) (bs:List Nat) (n:Nat) (hn:n<10) (h:WS w base g bs) (hl:bs.length<900000000):Calls Tryz.prog 120 #[.pointer (some ⟨g,0,none⟩),.agg (AA (n:Nat) 1).toArray] w (Fi base g (bs++bl (RM n)) w):=by
 have hb:=Ux w 24 (AA (n:Nat) 1).toArray;have hg:=(Uv w).alloc (.cells (AA (n:Nat) 1).toArray 24);have HW:=UX (h.grew hg);have HB:=UX h.2.1;have HN:=UX (LX n hn);have HI:=UX (PY n hn);have HS:=UX (fun w' (h:WS w' base g bs)=>Gy w' base g bs (RM n) h hl (by show(1:Nat)≤1000000;omega));clear h hl hn;go_enter Tryz.func120,Tryz.ntmps120;go_upto_region 1 with fail;change Code.wp _ _ _ _ (w.alloc (.cells (AA (n:Nat) 1).toArray 24));generalize w.alloc (.cells (AA (n:Nat) 1).toArray 24)=w1 at*;have HG:=UX hg;clear hg;go_upto_region 2 with(first|(refine lN (.tmp 3) hb rF ?_)|(go_at_call 154;(with_reducible refine(HN.out w1).mono ?_);rintro e3 w2 ⟨rfl,k2⟩;have HW2:=UX (HW.out.grew k2);have c0:w2.cell? ⟨w.heap.size,0,none⟩=some (.int .i64 (n:Nat)):=(hb.grew k2).cell 0;have HG2:=UX (HG.out.trans k2);clear k2)|fail);go_wp2_with(first|(go_at_call 155;(with_reducible refine(HI.out w2).mono ?_);rintro e3 w3 ⟨rfl,hw3⟩;obtain rfl:=hw3.symm;clear hw3)|(go_at_call 125;(with_reducible refine(HS.out _ HW2.out).mono ?_);rintro e3 w4 ⟨⟨u,rfl⟩,hws,hk,hkb⟩;have HR:=UX (UZ hws (UZ hk hkb));clear hws hk hkb));refine bodyPost_ret (results_none rfl _ _ _) rfl ?_;exact⟨⟨_,rfl⟩,HR.out.1,Uw (V2 HG2.out) HR.out.2.1 fun i _ h=>h,(KB.grew HG2.out).trans HR.out.2.2⟩
def Cq (e:Ex):Nat:=if e.kind=3 then(if e.fn=0∨e.fn=1 then 1 else 2)else 3
theorem Is (e:Ex) (cs:List Value) (w:World) (hr:BC w w.heap.size e cs):Calls Tryz.prog 123 #[.agg cs.toArray] w fun e' w'=>e'= .returned (.int .i64 (Cq e:Nat))∧A5 w w':=by
 obtain⟨vm,vb,vk,rfl, -⟩:=hr.open_;have hb:=Ux w 29 (A8 e vm vb vk).toArray;have hg:=(Uv w).alloc (.cells (A8 e vm vb vk).toArray 29);clear hr;go_enter Tryz.func123,Tryz.ntmps123;go_upto_region 1 with fail;change Code.wp _ _ _ _ (w.alloc (.cells (A8 e vm vb vk).toArray 29));generalize w.alloc (.cells (A8 e vm vb vk).toArray 29)=w1 at*;have c0:w1.cell? ⟨w.heap.size,0,none⟩=some (.int .i64 e.kind):=hb.cell 0;have c1:w1.cell? ⟨w.heap.size,1,none⟩=some (.int .i64 e.fn):=hb.cell 1;have HG:=UX hg;clear hb hg;by_cases h3:e.kind=3
 ·have t0:(e.kind==3)=true:=by rw[Ud];exact h3
  have t0':(e.kind !=3)=false:=by rw[bne,t0];rfl
  by_cases h0:e.fn=0
  ·have t1:(e.fn==0)=true:=by rw[Ud];exact h0
   have HF:=UX (show Cq e=1 from by unfold Cq;rw[Uo h3,Uo (.inl h0)]);clear h3 h0;go_wp2_with fail;go_ret;exact⟨by rw[HF.out];rfl,HG.out⟩
  have t1:(e.fn==0)=false:=by rw[UY];exact h0
  by_cases h1:e.fn=1
  ·have t2:(e.fn==1)=true:=by rw[Ud];exact h1
   have HF:=UX (show Cq e=1 from by unfold Cq;rw[Uo h3,Uo (.inr h1)]);clear h3 h0 h1;go_wp2_with fail;go_ret;exact⟨by rw[HF.out];rfl,HG.out⟩
  have t2:(e.fn==1)=false:=by rw[UY];exact h1
  have HF:=UX (show Cq e=2 from by unfold Cq;rw[Uo h3,Un (fun h=>h.elim h0 h1)]);clear h3 h0 h1;go_wp2_with fail;go_ret;exact⟨by rw[HF.out];rfl,HG.out⟩
 have t0:(e.kind==3)=false:=by rw[UY];exact h3
 have t0':(e.kind !=3)=true:=by rw[bne,t0];rfl
 have HF:=UX (show Cq e=3 from by unfold Cq;rw[Un h3]);clear h3;go_wp2_with fail;go_ret;exact⟨by rw[HF.out];rfl,HG.out⟩
theorem OV (e:Ex) (cs:List Value) (w:World) (base g:Nat) (bs:List Nat) (hr:BC w base e cs) (h:WS w base g bs) (hl:bs.length<900000000) (hn:e.name.size≤1000000) (hm:e.ms=[]) (hf:e.fn=0) (ho:e.offset=0):Calls Tryz.prog 121 #[.pointer (some ⟨g,0,none⟩),.agg cs.toArray] w (Fi base g (bs++bl e.name) w):=by
 obtain⟨vm,vb,vk,rfl,hms, -⟩:=hr.open_;obtain⟨Am,c,hvm,hc, -⟩:=hms;rw[hm]at hvm;obtain rfl:vm= .slice Am 0 c:=hvm;have hb:=Ux w 29 (A8 e (.slice Am 0 c) vb vk).toArray;have hg:=(Uv w).alloc (.cells (A8 e (.slice Am 0 c) vb vk).toArray 29);have HW:=UX (h.grew hg);have HB:=UX h.2.1;have HS:=UX (fun w' (h:WS w' base g bs)=>Gy w' base g bs e.name h hl hn);have HE:=UX (UZ hf ho);clear h hl hn hr hc hf ho;go_enter Tryz.func121,Tryz.ntmps121;go_upto_region 1 with fail;change Code.wp _ _ _ _ (w.alloc (.cells (A8 e (.slice Am 0 c) vb vk).toArray 29));generalize w.alloc (.cells (A8 e (.slice Am 0 c) vb vk).toArray 29)=w1 at*;have c7:w1.cell? ⟨w.heap.size,7,none⟩=some (.string e.name):=hb.cell 7;have HG:=UX hg;clear hg;go_upto_region 2 with(go_at_call 125;(with_reducible refine(HS.out _ HW.out).mono ?_);rintro e3 w4 ⟨⟨u,rfl⟩,hws,hk,hkb⟩;have HR:=UX (UZ hws (UZ hk hkb));clear hws hk hkb);have hb4:AK w4 w.heap.size 29 (A8 e (.slice Am 0 c) vb vk).toArray:=HR.out.2.2 _ _ _ hb (by decide) (by decide);have c8:w4.cell? ⟨w.heap.size,8,none⟩=some (.slice Am 0 c):=hb4.cell 8;have c1:w4.cell? ⟨w.heap.size,1,none⟩=some (.int .i64 0):=by rw[←HE.out.1];exact hb4.cell 1
 have c3:w4.cell? ⟨w.heap.size,3,none⟩=some (.int .i64 0):=by rw[←HE.out.2];exact hb4.cell 3
 clear hb hb4 c7;go_wp2_with fail;go_loopw [13] (fun i wr=>i= .int .i64 0∧w4=wr) (fun _ _=>0)
 case atStart=>exact⟨rfl,rfl⟩
 case round=>
  obtain⟨rfl,rfl⟩:=hrel;go_wp2_with fail;go_end0;exact⟨⟨_,rfl⟩,HR.out.1,Uw (V2 HG.out) HR.out.2.1 fun i _ h=>h,(KB.grew HG.out).trans HR.out.2.2⟩
def Fv (b:Bool) (l:List Nat):List Nat:=if b then 40::(l++[41])else l
def J9 (f:Int):Nat:=if f=0∨f=1 then 1 else 2
def Ky (k f n:Int) (nm:ByteArray) (ps:List (Nat×List Nat)):List Nat:=
 if k=0 then bl (RM n.toNat)else if k=1 then bl nm else match ps with
  |[(pa,a),(pb,b)]=>Fv (decide (pa<J9 f)) a++bl (M5 f.toNat)++Fv (decide (pb≤J9 f)) b
  |_=>[]
mutual
def EH:Ex→List Nat
 | .mk k f _ _ _ n _ nm _ _ ks=>Ky k f n nm (Nj ks)
def Nj:List Ex→List (Nat×List Nat)
 |[]=>[]
 |e::es=>(Cq e,EH e)::Nj es
end
theorem Ma (e:Ex):EH e=Ky e.kind e.fn e.num e.name (Nj e.kids):=by cases e;rw[EH];rfl
def Qo (e:Ex):Prop:=(e.kind=0∧e.den=1∧∃n:Nat,n<10∧e.num=n)∨(e.kind=1∧e.fn=0∧e.offset=0∧e.ms=[]∧e.name.size≤1000)∨(e.kind=3∧(∃f:Nat,f<4∧e.fn=f)∧∃a b,e.kids=[a,b])
theorem Qr {e a b:Ex} {f:Nat} (hk:e.kind=3) (hf:e.fn=f) (h:e.kids=[a,b]):EH e=Fv (decide (Cq a<J9 f)) (EH a)++bl (M5 f)++Fv (decide (Cq b≤J9 f)) (EH b):=by
 rw[Ma,h,hk,hf];unfold Nj Nj Nj Ky;rw[Un (by decide),Un (by decide)];simp
theorem PF (e:Ex) (cs:List Value) (base g N:Nat) (hob:1<base) (HWr:∀(w:World) (bs:List Nat),Dt w→BC w base e cs→WS w base g bs→bs.length+(EH e).length+N<900000000→Calls Tryz.prog 81 #[.pointer (some ⟨g,0,none⟩),.agg cs.toArray] w (Fi base g (bs++EH e) w))
  (w:World) (bs:List Nat) (b:Bool) (hot:Dt w) (hr:BC w base e cs) (h:WS w base g bs) (hl:bs.length+(EH e).length+N+2<900000000):
  Calls Tryz.prog 124 #[.pointer (some ⟨g,0,none⟩),.agg cs.toArray,.bool b] w (Fi base g (bs++Fv b (EH e)) w):=by
 have hbs:=h.2.1;have hlen:=BT hr;have hb:=Ux w 29 cs.toArray;have hg:=(Uv w).alloc (.cells cs.toArray 29);have HR:=UX (fun w' (k:A4 (fun i=>base≤i) w w')=>BC.keep (B':=base) hbs (Ua _) k (fun i hi e=>by omega) e cs hr);have HW:=UX (h.grew hg);have HL:=UX (UZ hl hlen);have HC:=UX HWr;have HO:=UX (fun w' (k:A4 (fun i=>base≤i) w w')=>hot.keep k (by omega));clear h hr hl hlen HWr hot;rcases b with _|_
 ·go_enter Tryz.func124,Tryz.ntmps124;go_upto_region 1 with fail;change Code.wp _ _ _ _ (w.alloc (.cells cs.toArray 29));generalize w.alloc (.cells cs.toArray 29)=w1 at*;have HG:=UX hg;clear hg;go_wp2_with(first|(refine lN (.tmp 4) hb rX ?_ (hl:=HL.out.2))|(go_at_call 81;(with_reducible refine(HC.out w1 bs (HO.out _ (V2 HG.out)) (HR.out _ (V2 HG.out)) HW.out (by have:=HL.out.1;omega)).mono ?_);rintro e3 w4 ⟨⟨u,rfl⟩,hws,hk,hkb⟩;have HF:=UX (UZ hws (UZ hk hkb));clear hws hk hkb)|fail);go_end0;exact⟨⟨_,rfl⟩,HF.out.1,Uw (V2 HG.out) HF.out.2.1 fun i _ h=>h,(KB.grew HG.out).trans HF.out.2.2⟩
 go_enter Tryz.func124,Tryz.ntmps124;go_upto_region 1 with fail;change Code.wp _ _ _ _ (w.alloc (.cells cs.toArray 29));generalize w.alloc (.cells cs.toArray 29)=w1 at*;have HG:=UX hg;clear hg;have HB1:=UX (show ∀w',WS w' base g bs→Calls Tryz.prog 156 #[.pointer (some ⟨g,0,none⟩),.int .u8 40] w' (Fi base g (bs++[40]) w')from fun w' h=>Ix w' base g bs 40 h (by have:=HL.out.1;omega));have HB2:=UX (show ∀w',WS w' base g (bs++[40]++EH e)→Calls Tryz.prog 156 #[.pointer (some ⟨g,0,none⟩),.int .u8 41] w' (Fi base g (bs++[40]++EH e++[41]) w')from fun w' h=>Ix w' base g _ 41 h (by have:=HL.out.1;simp;omega));go_upto_region 3 with(go_at_call 156;(with_reducible refine(HB1.out _ HW.out).mono ?_);rintro e3 w2 ⟨⟨u,rfl⟩,hws,hk,hkb⟩;have HF:=UX (UZ hws (UZ hk hkb));clear hws hk hkb);have hb2:=HF.out.2.2 _ _ _ hb (by decide) (by decide);go_upto_region 4 with(first|(refine lN (.tmp 4) hb2 rX ?_ (hl:=HL.out.2))|(go_at_call 81;(with_reducible refine(HC.out w2 (bs++[40]) (HO.out _ (Uw (V2 HG.out) HF.out.2.1 fun i _ h=>h)) (HR.out _ (Uw (V2 HG.out) HF.out.2.1 fun i _ h=>h)) HF.out.1 (by have:=HL.out.1;simp;omega)).mono ?_);rintro e3 w4 ⟨⟨u2,rfl⟩,hws,hk,hkb⟩;have HF2:=UX (UZ hws (UZ hk hkb));clear hws hk hkb)|fail);go_wp2_with(go_at_call 156;(with_reducible refine(HB2.out _ HF2.out.1).mono ?_);rintro e3 w5 ⟨⟨u3,rfl⟩,hws,hk,hkb⟩;have HF3:=UX (UZ hws (UZ hk hkb));clear hws hk hkb);go_end0;refine⟨⟨_,rfl⟩,?_,Uw (Uw (Uw (V2 HG.out) HF.out.2.1 fun i _ h=>h) HF2.out.2.1 fun i _ h=>h) HF3.out.2.1 fun i _ h=>h,(((KB.grew HG.out).trans HF.out.2.2).trans HF2.out.2.2).trans HF3.out.2.2⟩;have h:=HF3.out.1;rw[show bs++Fv true (EH e)=bs++[40]++EH e++[41] by unfold Fv;simp];exact h
theorem LQ {f:Nat} (h:f<4):(M5 f).size=1:=by
 rcases(show f=0∨f=1∨f=2∨f=3 by omega)with rfl|rfl|rfl|rfl<;>rfl
theorem SH {f:Nat} (h:f<4) {e:Ex} (hk:e.kind=3) (hf:e.fn=f):Cq e=J9 f:=by
 unfold Cq J9;rw[Uo hk,hf]
theorem Gq:∀(k:Nat) (e:Ex),AD e≤k→k≤1000000→Aw Qo e→∀(base g:Nat) (cs:List Value) (w:World) (bs:List Nat),Dt w→1<base→BC w base e cs→WS w base g bs→bs.length+(EH e).length+4*AD e<900000000→
  Calls Tryz.prog 81 #[.pointer (some ⟨g,0,none⟩),.agg cs.toArray] w (Fi base g (bs++EH e) w)
 |0,e,h,_,_,_,_,_,_,_,_,_,_,_,_=>absurd (AZ e) (by omega)
 |k+1,e,hk,hk2,hpr,base,g,cs,w,bs,hot,hob,hr,h,hl=>by
  have hbs:=h.2.1;have hcl:=BT hr;obtain⟨vm,vb,vk,rfl, -, -,hT⟩:=hr.open_;have hb:=Ux w 29 (A8 e vm vb vk).toArray;have hg:=(Uv w).alloc (.cells (A8 e vm vb vk).toArray 29);have HW:=UX (h.grew hg);have HR:=UX hr;have HBS:=UX hbs;have HL:=UX hl;have HT:=UX hT;rcases hpr.top with⟨h0,hd,n,hn,hnum⟩|⟨h1,hf,ho,hms,hns⟩|⟨h3,⟨f,hf4,hf⟩,ea,eb,hks⟩
  ·have hp:EH e=bl (RM n):=by rw[Ma];unfold Ky;rw[Uo h0,hnum];rfl
   rw[hp]at HL ⊢;have HN:=UX (fun w' (h:WS w' base g bs)=>Ob w' base g bs n hn h (by have:=HL.out;omega));clear hp h hr hl hk hot;go_enter Tryz.func81,Tryz.ntmps81;go_upto_region 1 with fail;change Code.wp _ _ _ _ (w.alloc (.cells (A8 e vm vb vk).toArray 29));generalize w.alloc (.cells (A8 e vm vb vk).toArray 29)=w1 at*;have c0:w1.cell? ⟨w.heap.size,0,none⟩=some (.int .i64 0):=by rw[←h0];exact hb.cell 0
   have hrf:w1.rangeAt w.heap.size 5 (AA (n:Nat) 1):=by
    have h5:=hb.rangeN 5 (AA e.num e.den) rfl;rwa[hnum,hd]at h5
   have HG:=UX hg;clear hg hb h0 hd hnum;go_wp2_with(first|(refine lM (.tmp 10) hrf rF ?_)|(go_at_call 120;(with_reducible refine(HN.out w1 HW.out).mono ?_);rintro e3 w4 ⟨⟨u,rfl⟩,hws,hk,hkb⟩;have HF:=UX (UZ hws (UZ hk hkb));clear hws hk hkb)|fail);go_end0;exact⟨⟨_,rfl⟩,HF.out.1,Uw (V2 HG.out) HF.out.2.1 fun i _ h=>h,(KB.grew HG.out).trans HF.out.2.2⟩
  ·have hp:EH e=bl e.name:=by rw[Ma];unfold Ky;rw[Un (by rw[h1];decide),Uo h1]
   rw[hp]at HL ⊢;have HN:=UX (fun w' (hr:BC w' base e (A8 e vm vb vk)) (h:WS w' base g bs)=>OV e (A8 e vm vb vk) w' base g bs hr h (by have:=HL.out;omega) (by omega) hms hf ho);have hr1:=BC.keep (B':=base) hbs (Ua _) hg (fun _ _ h=>h) e _ hr;have HR1:=UX hr1;clear hp h hr hl hk hot hr1;go_enter Tryz.func81,Tryz.ntmps81;go_upto_region 1 with fail;change Code.wp _ _ _ _ (w.alloc (.cells (A8 e vm vb vk).toArray 29));generalize w.alloc (.cells (A8 e vm vb vk).toArray 29)=w1 at*;have c0:w1.cell? ⟨w.heap.size,0,none⟩=some (.int .i64 1):=by rw[←h1];exact hb.cell 0
   have HG:=UX hg;clear hg h1 hf ho hms;go_wp2_with(first|(refine lN (.tmp 3) hb rX ?_)|(go_at_call 121;(with_reducible refine(HN.out w1 HR1.out HW.out).mono ?_);rintro e3 w4 ⟨⟨u,rfl⟩,hws,hk,hkb⟩;have HF:=UX (UZ hws (UZ hk hkb));clear hws hk hkb)|fail);go_end0;exact⟨⟨_,rfl⟩,HF.out.1,Uw (V2 HG.out) HF.out.2.1 fun i _ h=>h,(KB.grew HG.out).trans HF.out.2.2⟩
  have hp:=Qr h3 hf hks;have hne:=Ao e;have hna:=AT (show ea∈e.kids by rw[hks];simp);have hnb:=AT (show eb∈e.kids by rw[hks];simp);rw[hp]at HL ⊢;have hos:=LQ hf4;obtain⟨A,n,c,rfl,hn2, -⟩:=hT.slice;obtain rfl:n=2:=by rw[hn2,hks];rfl
  have hTT:=hT;rw[hks]at hTT;obtain⟨b,o,ca,rfl,hbb,hra,hea⟩:=hTT.at_ (j:=0) (e:=ea) rfl;obtain⟨b',o',cb,hbo, -,hrb,heb⟩:=hTT.at_ (j:=1) (e:=eb) rfl;simp only[Ur,Addr.mk.injEq,and_true]at hbo;obtain⟨rfl,rfl⟩:=hbo;rw[Nat.zero_mul,Nat.add_zero]at hra;rw[Nat.one_mul]at hrb;have HRd:=UX (show ∀w',A4 (fun i=>base≤i) w w'→BC w' base ea ca∧BC w' base eb cb∧w'.rangeAt b o ca∧w'.rangeAt b (o+11) cb∧Dt w' from fun w' k=>⟨BC.keep hbs (Ua _) k (fun i hi e=>by omega) ea ca hea,BC.keep hbs (Ua _) k (fun i hi e=>by omega) eb cb heb,AR hra (by omega) k (by omega),AR hrb (by omega) k (by omega),hot.keep k (by omega)⟩);have HLN:=UX (UZ (BT hea) (BT heb));have HPe:=UX (show Cq e=J9 f from SH hf4 h3 hf);have HWa:=UX (fun w' bs' (hr:BC w' base ea ca) (ho:Dt w') (h:WS w' base g bs') (hl:bs'.length+(EH ea).length+4*AD ea<900000000)=>Gq k ea (by omega) (by omega) (hpr.kid (by rw[hks];simp)) base g ca w' bs' ho hob hr h hl);have HWb:=UX (fun w' bs' (hr:BC w' base eb cb) (ho:Dt w') (h:WS w' base g bs') (hl:bs'.length+(EH eb).length+4*AD eb<900000000)=>Gq k eb (by omega) (by omega) (hpr.kid (by rw[hks];simp)) base g cb w' bs' ho hob hr h hl);have HOa:=UX (fun w' bs' x ho (hr:BC w' base ea ca) (h:WS w' base g bs') hl=>PF ea ca base g (4*AD ea) hob (fun w bs ho hr h hl=>HWa.out w bs hr ho h hl) w' bs' x ho hr h hl);have HOb:=UX (fun w' bs' x ho (hr:BC w' base eb cb) (h:WS w' base g bs') hl=>PF eb cb base g (4*AD eb) hob (fun w bs ho hr h hl=>HWb.out w bs hr ho h hl) w' bs' x ho hr h hl);have HBB:=UX (show b<base from hbb);obtain⟨x1,hx1⟩:∃x,decide (Cq ea<J9 f)=x:=⟨_,rfl⟩;obtain⟨x2,hx2⟩:∃x,decide (Cq eb≤J9 f)=x:=⟨_,rfl⟩;obtain⟨pa,hpa⟩:∃x,Cq ea=x:=⟨_,rfl⟩;obtain⟨pb,hpb⟩:∃x,Cq eb=x:=⟨_,rfl⟩;obtain⟨lv,hlv⟩:∃x,J9 f=x:=⟨_,rfl⟩;rw[hx1,hx2]at HL ⊢;rw[hpa,hlv]at hx1;rw[hpb,hlv]at hx2;rw[hlv]at HPe;have HPC:=UX (fun w' cs (hr:BC w' w'.heap.size e cs)=>Is e cs w' hr);have HPA:=UX (fun w' (hr:BC w' w'.heap.size ea ca)=>Is ea ca w' hr);have HPB:=UX (fun w' (hr:BC w' w'.heap.size eb cb)=>Is eb cb w' hr);rw[HPe.out]at HPC;rw[hpa]at HPA;rw[hpb]at HPB;have HLE:=UX (show(Fv x1 (EH ea)).length≤(EH ea).length+2∧(Fv x2 (EH eb)).length≤(EH eb).length+2∧(EH ea).length≤(Fv x1 (EH ea)).length∧(EH eb).length≤(Fv x2 (EH eb)).length∧(bl (M5 f)).length=1∧AD ea+AD eb+1≤AD e from by
   refine⟨?_,?_,?_,?_,by rw[JR,hos],by rw[hne,hks];unfold AO AO AO;omega⟩<;>(unfold Fv;split<;>simp<;>omega))
  have hr1:=BC.keep (B':=(w.alloc (.cells (A8 e vm vb (.slice (some ⟨b,o,none⟩) 2 c)).toArray 29)).heap.size) hbs (Ue hbs hg.size) hg (fun _ _ h=>h) e _ hr;have HR1:=UX hr1;have HF:=UX (UZ hf hf4);have HX:=UX (UZ hx1 hx2);clear HWa HWb;clear hp h hr hl hk hk2 hot hr1 hTT hT hra hrb hea heb hne hna hnb hks hpr hn2 hx1 hx2 hpa hpb hlv HR HT hos hcl HPe hbb;go_enter Tryz.func81,Tryz.ntmps81;go_upto_region 1 with fail;change Code.wp _ _ _ _ (w.alloc (.cells (A8 e vm vb (.slice (some ⟨b,o,none⟩) 2 c)).toArray 29));generalize w.alloc (.cells (A8 e vm vb (.slice (some ⟨b,o,none⟩) 2 c)).toArray 29)=w1 at*;have c0:w1.cell? ⟨w.heap.size,0,none⟩=some (.int .i64 3):=by rw[←h3];exact hb.cell 0
  have HG:=UX hg;have HB:=UX hb;clear hg h3 hf;go_upto_region 10 with(first|(refine lN (.tmp 3) hb rX ?_)|(go_at_call 123;(with_reducible refine(HPC.out w1 _ HR1.out).mono ?_);rintro e3 w2 ⟨rfl,k2⟩;have HG2:=UX (HG.out.trans k2);have HW2:=UX (HW.out.grew k2);have HB2:=UX (HB.out.grew k2);clear k2)|fail);clear hb c0;have HRA:=UX (show w2.drew.rangeAt b o ca∧w2.drew.rangeAt b (o+11) cb from⟨(HRd.out _ (Uy (V2 HG2.out))).2.2.1,(HRd.out _ (Uy (V2 HG2.out))).2.2.2.1⟩);have HP0:=UX (fun w' (hg:A5 w2.drew w')=>HPA.out w' (BC.keep (B':=w'.heap.size) (Ue HBS.out HG2.out.size) (by have h1:=hg.size;have h2:=HG2.out.size;have h3:=HBS.out;have h4:w2.drew.heap.size=w2.heap.size:=rfl;omega) ((Uy (Uv w2)).trans hg) (fun _ _ h=>h) ea ca (HRd.out _ (V2 HG2.out)).1));refine Gg (by kernel_rfl) 12 [.pointer (some ⟨g,0,none⟩),.pointer (some ⟨w.heap.size,10,none⟩),.slice (some ⟨b,o,none⟩) 2 c,.pointer (some ⟨b,o,none⟩),.agg ca.toArray,.pointer (some ⟨w.heap.size,10,none⟩),.slice (some ⟨b,o,none⟩) 2 c,.pointer (some ⟨b,o,none⟩),.agg ca.toArray,.int .i64 (pa:Nat),.int .i64 (lv:Nat),.bool x1] _ (by kernel_rfl) (by kernel_rfl) (by kernel_rfl) rfl ?sH _ rfl rfl (by kernel_rfl) (by kernel_rfl) ?sT
  case sH=>
   simp only[ny];refine hP (hP (hR (fun w' hg=>?_) ?_))
   ·have hc:w'.cell? ⟨w.heap.size,10,none⟩=some (.slice (some ⟨b,o,none⟩) 2 c):=(HB2.out.drew.grew hg).cell 10;go_simp;exact Uv _
   refine hP (hM (hl:=HLN.out.1) (fun w' hg=>AR HRA.out.1 (Ub HBB.out (Ue HBS.out HG2.out.size)) hg (fun h=>h)) rX (hP (hR (fun w' hg=>?_) ?_)))
   ·have hc:w'.cell? ⟨w.heap.size,10,none⟩=some (.slice (some ⟨b,o,none⟩) 2 c):=(HB2.out.drew.grew hg).cell 10;go_simp;exact Uv _
   refine hP (hM (hl:=HLN.out.1) (fun w' hg=>AR HRA.out.1 (Ub HBB.out (Ue HBS.out HG2.out.size)) hg (fun h=>h)) rX (hK (fun w' hg=>HP0.out _ hg) (hP (hR (fun w' hg=>?_) ?_))))
   ·go_simp;exact⟨HX.out.1,Uv _⟩
   exact AF
  case sT=>
   intro wn hgn;simp only[ny];go_simp;(with_reducible refine(HOa.out wn bs x1 (HRd.out _ (V2 (HG2.out.trans hgn))).2.2.2.2 (HRd.out _ (V2 (HG2.out.trans hgn))).1 (HW2.out.grew hgn) (by have:=HL.out;have:=HLE.out;simp only[Us]at*;omega)).mono ?_);rintro e3 w3 ⟨⟨u,rfl⟩,hws,hk,hkb⟩;have HF3:=UX (UZ hws (UZ (show A4 (fun i=>base≤i) w w3 from Uw (V2 (HG2.out.trans hgn)) hk fun i _ h=>h) (show KB w2 w3 from(KB.grew hgn).trans hkb)));clear hws hk hkb HOa HP0 HRA;have hb3:=HF3.out.2.2 _ _ _ HB2.out (by decide) (by decide);have c1:w3.cell? ⟨w.heap.size,1,none⟩=some (.int .i64 (f:Nat)):=by rw[←HF.out.1];exact hb3.cell 1
   have ot3:=(HRd.out _ HF3.out.2.1).2.2.2.2;have hf4:=HF.out.2;have co:w3.cell? ⟨1,f,none⟩=some (.string (M5 f)):=ot3.2 f (M5 f) (by rcases(show f=0∨f=1∨f=2∨f=3 by omega)with rfl|rfl|rfl|rfl<;>rfl);have hi1:(0:Int)≤(f:Int)∧(f:Int)<4:=by omega
   obtain⟨hi1,hi2⟩:=hi1;have HWo:=UX (show ∀w',WS w' base g (bs++Fv x1 (EH ea))→Calls Tryz.prog 125 #[.pointer (some ⟨g,0,none⟩),.string (M5 f)] w' (Fi base g (bs++Fv x1 (EH ea)++bl (M5 f)) w')from fun w' h=>Gy w' base g _ (M5 f) h (by have:=HL.out;simp only[Us]at*;omega) (by rw[LQ hf4];omega));go_upto_region 12 with(go_at_call 125;(with_reducible refine(HWo.out _ HF3.out.1).mono ?_);rintro e3 w4 ⟨⟨u4,rfl⟩,hws,hk,hkb⟩;have HF4:=UX (UZ hws (UZ hk hkb));clear hws hk hkb);have HB4:=UX (HF4.out.2.2 _ _ _ hb3 (by decide) (by decide));have HK4:=UX (show A4 (fun i=>base≤i) w w4 from Uw HF3.out.2.1 HF4.out.2.1 fun i _ h=>h);clear hb3 c1 ot3 co hi1 hi2 HWo;have HRA:=UX (show w4.drew.rangeAt b o ca∧w4.drew.rangeAt b (o+11) cb from⟨(HRd.out _ (Uy HK4.out)).2.2.1,(HRd.out _ (Uy HK4.out)).2.2.2.1⟩);have HP1:=UX (fun w' (hg:A5 w4.drew w')=>HPB.out w' (BC.keep (B':=w'.heap.size) (Ue HBS.out HK4.out.size) (by have h1:=hg.size;have h2:=HK4.out.size;have h3:=HBS.out;have h4:w4.drew.heap.size=w4.heap.size:=rfl;omega) ((Uy (Uv w4)).trans hg) (fun _ _ h=>h) eb cb (HRd.out _ HK4.out).2.1));refine Gg (by kernel_rfl) 12 [.pointer (some ⟨g,0,none⟩),.pointer (some ⟨w.heap.size,10,none⟩),.slice (some ⟨b,o,none⟩) 2 c,.pointer (some ⟨b,o+11,none⟩),.agg cb.toArray,.pointer (some ⟨w.heap.size,10,none⟩),.slice (some ⟨b,o,none⟩) 2 c,.pointer (some ⟨b,o+11,none⟩),.agg cb.toArray,.int .i64 (pb:Nat),.int .i64 (lv:Nat),.bool x2] _ (by kernel_rfl) (by kernel_rfl) (by kernel_rfl) rfl ?sH2 _ rfl rfl (by kernel_rfl) (by kernel_rfl) ?sT2
   case sH2=>
    simp only[ny];refine hP (hP (hR (fun w' hg=>?_) ?_))
    ·have hc:w'.cell? ⟨w.heap.size,10,none⟩=some (.slice (some ⟨b,o,none⟩) 2 c):=(HB4.out.drew.grew hg).cell 10;go_simp;exact Uv _
    refine hP (hM (hl:=HLN.out.2) (fun w' hg=>AR HRA.out.2 (Ub HBB.out (Ue HBS.out HK4.out.size)) hg (fun h=>h)) rX (hP (hR (fun w' hg=>?_) ?_)))
    ·have hc:w'.cell? ⟨w.heap.size,10,none⟩=some (.slice (some ⟨b,o,none⟩) 2 c):=(HB4.out.drew.grew hg).cell 10;go_simp;exact Uv _
    refine hP (hM (hl:=HLN.out.2) (fun w' hg=>AR HRA.out.2 (Ub HBB.out (Ue HBS.out HK4.out.size)) hg (fun h=>h)) rX (hK (fun w' hg=>HP1.out _ hg) (hP (hR (fun w' hg=>?_) ?_))))
    ·go_simp;exact⟨HX.out.2,Uv _⟩
    exact AF
   case sT2=>
    intro TZ hgn2;simp only[ny];go_simp;(with_reducible refine(HOb.out TZ (bs++Fv x1 (EH ea)++bl (M5 f)) x2 (HRd.out _ (A4.grew HK4.out hgn2)).2.2.2.2 (HRd.out _ (A4.grew HK4.out hgn2)).2.1 (HF4.out.1.grew hgn2) (by have:=HL.out;have:=HLE.out;simp only[Us]at*;omega)).mono ?_);rintro e3 w5 ⟨⟨u5,rfl⟩,hws,hk,hkb⟩;have HF5:=UX (UZ hws (UZ (show A4 (fun i=>base≤i) w w5 from Uw (A4.grew HK4.out hgn2) hk fun i _ h=>h) hkb));clear hws hk hkb;go_wp2_with fail;go_end0;refine⟨⟨_,rfl⟩,?_,HF5.out.2.1,?_⟩
    ·have h:=HF5.out.1;simpa only[List.append_assoc]using h
    exact(((KB.grew HG2.out).trans HF3.out.2.2).trans HF4.out.2.2).trans ((KB.grew hgn2).trans HF5.out.2.2)
theorem Fh:∀(k:Nat) (e:Ex),AD e≤k→k≤1000000→Aw Qo e→∀(w:World) (cs:List Value),BC w w.heap.size e cs→
  Calls Tryz.prog 80 #[.agg cs.toArray] w fun e' w'=>e'= .returned (.bool true)∧A5 w w'
 |0,e,h,_,_,_,_,_=>absurd (AZ e) (by omega)
 |k+1,e,hk,hk2,hpr,w,cs,hr=>by
  obtain⟨vm,vb,vk,rfl, -, -,hT⟩:=hr.open_;have hne:=Ao e;have hkl:=B9 e.kids;obtain⟨A,n,c,rfl,hn, -⟩:=hT.slice;have HIH:=UX (fun(e':Ex) (w':World) (cs:List Value) (h1:e'∈e.kids) (h2:BC w' w'.heap.size e' cs)=>Fh k e' (by have:=AT h1;omega) (by omega) (hpr.kid h1) w' cs h2);have HT:=UX hT;have HN:=UX hn;have hbx:=Ux w 29 (A8 e vm vb (.slice A n c)).toArray;have hG:=(Uv w).alloc (.cells (A8 e vm vb (.slice A n c)).toArray 29);have hnb:n≤1000000:=by omega
  have htop:=hpr.top;clear hr hT hn hne hkl hk hk2;go_enter Tryz.func80,Tryz.ntmps80;go_upto_region 1 with fail;change Code.wp _ _ _ _ (w.alloc (.cells (A8 e vm vb (.slice A n c)).toArray 29));generalize w.alloc (.cells (A8 e vm vb (.slice A n c)).toArray 29)=w1 at*;have HBx:=UX hbx;have HG:=UX hG;have c0:w1.cell? ⟨w.heap.size,0,none⟩=some (.int .i64 e.kind):=hbx.cell 0;by_cases h0:e.kind=0
  ·have t0:(e.kind==0)=true:=by rw[Ud];exact h0
   obtain⟨m,hm,hnum,hd⟩:∃m:Nat,m<10∧e.num=m∧e.den=1:=by
    rcases htop with⟨_,hd,m,hm,hnum⟩|⟨h1, -⟩|⟨h1, -⟩
    ·exact⟨m,hm,hnum,hd⟩
    ·rw[h0]at h1;cases h1
    rw[h0]at h1;cases h1
   have c5:w1.cell? ⟨w.heap.size,5,none⟩=some (.int .i64 (m:Nat)):=by rw[←hnum];exact hbx.cell 5
   have c6:w1.cell? ⟨w.heap.size,6,none⟩=some (.int .i64 1):=by rw[←hd];exact hbx.cell 6
   have t1:decide ((m:Int)≥ -1073741824)=true:=by rw[decide_eq_true_iff];omega
   have t2:decide ((m:Int)≤1073741824)=true:=by rw[decide_eq_true_iff];omega
   clear hbx hG htop h0 hnum hd;go_wp2_with fail;go_ret;exact⟨rfl,HG.out⟩
  have t0:(e.kind==0)=false:=by rw[UY];exact h0
  have c10:w1.cell? ⟨w.heap.size,10,none⟩=some (.slice A n c):=hbx.cell 10;clear hbx hG htop h0;go_wp2_with fail;go_loopw [4,27] (fun _ i wr=>∃(j:Nat),j≤n∧i= .int .i64 (j:Nat)∧A5 w1 wr) (fun _ i _=>n-(intOf i).toNat)
  case atStart=>exact⟨0,by omega,rfl,Uv _⟩
  case round=>
   obtain⟨j,hj,rfl,hGr⟩:=hrel;by_cases hlt:j<n
   ·have hjl:j<e.kids.length:=by rw[←HN.out];exact hlt
    obtain⟨e',he'⟩:∃e',e.kids[j]? =some e':=⟨_,Uc hjl⟩;have hmem:e'∈e.kids:=Uk he';obtain⟨b,o,cs,rfl,hb,hrg,hre⟩:=(HT.out.grew (HG.out.trans hGr)).at_ he';obtain⟨vm',vb',vk',hcs,hm',hy',hT'⟩:=hre.open_;subst hcs;obtain⟨A1,n1,c1,rfl⟩:∃A n c,vm'= .slice A n c:=by obtain⟨A,c,h, -⟩:=hm';exact⟨A,_,c,h⟩
    obtain⟨A2,n2,c2,rfl⟩:∃A n c,vb'= .slice A n c:=by obtain⟨A,c,h, -⟩:=hy';exact⟨A,_,c,h⟩
    obtain⟨A3,n3,c3,rfl, -⟩:=hT'.slice;have HI:=UX (fun w' (g:A5 wr w')=>HIH.out e' w' _ hmem (hre.grew g));have HRg:=UX hrg;have HGr:=UX hGr;clear hjl he' hmem hrg hre hGr hm' hy' hT' c0 c10;go_wp2_with(first|(refine lM (.tmp 29) HRg.out rX ?_)|(refine sN (.tmp 4) (.tmp 30) (A8 e' (.slice A1 n1 c1) (.slice A2 n2 c2) (.slice A3 n3 c3)) (Ux wr 29 _) rX ?_ (us:=(AE 0 0));intro w5 hb5 k5 d5;have g5:A5 wr w5:=Uw ((Uv wr).alloc _) k5 (fun i hi e=>by omega);clear k5 d5)|(refine lN (.tmp 4) hb5 rX ?_)|(go_at_call 80;(with_reducible refine(HI.out _ g5).mono ?_);rintro e2 w6 ⟨rfl,k6⟩;have HG6:=UX ((HGr.out.trans g5).trans k6);clear k6 g5 hb5)|fail);go_roundw
    case rel=>exact⟨j+1,by omega,by go_num,HG6.out⟩
    case measure=>simp[intOf];omega
   obtain rfl:j=n:=by omega
   go_wp2_with fail;go_ret;exact⟨rfl,HG.out.trans hGr⟩
def Jn (e:Ex) (w:World) (e':Ending) (w':World):Prop:=∃s,e'= .returned (.tuple #[.string s,.int .i64 0])∧bl s=EH e∧A5 w w'
theorem OE (w:World) (base g:Nat) (bs:List Nat) (h:WS w base g bs):Calls Tryz.prog 82 #[.pointer (some ⟨g,0,none⟩)] w fun e w'=>e= .returned (.int .i64 (bs.length:Nat))∧w'=w:=by
 obtain⟨-, -,p,v,hb⟩:=h;obtain⟨c0,c1⟩:=hb.cells;rcases hb.row.form with⟨rfl,hx⟩|⟨g',cap,cur,rfl, -⟩
 ·have hz:bs.length=0:=by simpa using congrArg List.length hx
  rw[hz];clear hb hx hz;go_enter Tryz.func82,Tryz.ntmps82;go_wp2_with fail;go_ret;exact⟨rfl,rfl⟩
 rw[List.length_map]at c1;clear hb;go_enter Tryz.func82,Tryz.ntmps82;go_wp2_with fail;go_ret;exact⟨rfl,rfl⟩
theorem Jt (e:Ex) (hn:AD e≤1000000) (hok:Aw B1 e) (hpr:Aw Qo e) (hv:CA e=0) (hl:0<(EH e).length∧(EH e).length≤2000) (hby:Bytes (EH e)) (w:World) (cs:List Value) (hwt:Cy w) (hot:Dt w) (hr:BC w w.heap.size e cs):
  Calls Tryz.prog 45 #[.agg cs.toArray] w (Jn e w):=by
 have hcl:=BT hr;have hb:=Ux w 29 cs.toArray;have hg:=(Uv w).alloc (.cells cs.toArray 29);have HR:=UX (fun w' (g:A5 w w')=>hr.grew g);have HVd:=UX (fun w' (g:A5 w w')=>Fw e hn hok w' cs (hwt.grew g) (hr.grew g));rw[hv]at HVd;have HPb:=UX (fun w' (g:A5 w w')=>Fh (AD e) e (Ua _) hn hpr w' cs (hr.grew g));have HOT:=UX (fun w' (g:A5 w w')=>hot.keep g (fun h=>h));have HL:=UX (UZ hl (UZ hby hcl));have HNn:=UX (UZ hn hpr);clear hr hok hpr hv hl hby hwt hot hn hcl;go_enter Tryz.func45,Tryz.ntmps45;go_upto_region 1 with fail;change Code.wp _ _ _ _ (w.alloc (.cells cs.toArray 29));generalize w.alloc (.cells cs.toArray 29)=w1 at*;have HG:=UX hg;have HB:=UX hb;clear hg;go_upto_region 2 with(first|(refine lN (.tmp 1) hb rX ?_ (hl:=HL.out.2.2))|(go_at_call 17;(with_reducible refine(HVd.out _ HG.out).mono ?_);rintro e3 w2 ⟨rfl,k2⟩;have HG2:=UX (HG.out.trans k2);have hb2:=HB.out.grew k2;clear k2)|fail);clear hb;go_upto_region 6 with(first|(refine lN (.tmp 1) hb2 rX ?_ (hl:=HL.out.2.2))|(go_at_call 80;(with_reducible refine(HPb.out _ HG2.out).mono ?_);rintro e3 w3 ⟨rfl,k3⟩;have HG3:=UX (HG2.out.trans k3);have hb3:=hb2.grew k3;clear k3)|fail);have HB3:=UX hb3;clear hb2 hb3;go_upto_region 7 with fail;have hbs:=Ux w3 100 #[.pointer none,.slice none 0 0];have hg4:=(Uv w3).alloc (.cells #[.pointer none,.slice none 0 0] 100);have hws:WS (w3.alloc (.cells #[.pointer none,.slice none 0 0] 100)) w3.heap.size w3.heap.size []:=⟨Ua _,by simp,_,_,hbs,Bf.nil _ _ _,.inl rfl⟩;generalize w3.alloc (.cells #[.pointer none,.slice none 0 0] 100)=w4 at*;have HWS:=UX hws;have hr4:=BC.keep (B':=w3.heap.size) (Ua _) (Ua _) hg4 (fun _ _ h=>h) e cs (HR.out w3 HG3.out);have HWr:=UX (Gq (AD e) e (Ua _) HNn.out.1 HNn.out.2 w3.heap.size w3.heap.size cs w4 [] (HOT.out _ (HG3.out.trans hg4)) (by have:=(HOT.out _ HG3.out).1;omega) hr4 hws (by have:=HL.out.1;have:=HNn.out.1;simp;omega));have hb4:=HB3.out.grew hg4;have HG4:=UX hg4;clear hbs hg4 hws hr4;go_upto_region 8 with(first|(refine lN (.tmp 1) hb4 rX ?_ (hl:=HL.out.2.2))|(go_at_call 81;(with_reducible refine HWr.out.mono ?_);rintro e3 w5 ⟨⟨u,rfl⟩,hws5,hk5, -⟩;have HW5:=UX hws5;have HK5:=UX (show A5 w3 w5 from Uw HG4.out hk5 fun i hi e=>by omega);clear hws5 hk5)|fail);have HLn:=UX (OE w5 w3.heap.size w3.heap.size _ HW5.out);rw[List.nil_append]at HLn HW5;obtain⟨ln,hln⟩:∃ln,(EH e).length=ln:=⟨_,rfl⟩;rw[hln]at HLn;have tl:decide ((ln:Int)>2000)=false:=by rw[decide_eq_false_iff_not];have:=HL.out.1;omega
 have HStr:=UX (show Calls Tryz.prog 83 #[.pointer (some ⟨w3.heap.size,0,none⟩)] w5 (fun e1 w'=>∃s,e1= .returned (.string s)∧bl s=EH e∧A4 (fun i=>w3.heap.size≤i) w5 w')from by
  obtain⟨-, -,p,v,hsb⟩:=HW5.out;exact Kc w3.heap.size w3.heap.size p v (EH e) w5 hsb HL.out.1.1 HL.out.2.1 (by have:=HL.out.1;omega))
 have HLX:=UX hln;clear hln;go_wp2_with(first|(go_at_call 82;(with_reducible refine HLn.out.mono ?_);rintro e3 w9 ⟨rfl,hw9⟩;obtain rfl:=hw9.symm;clear hw9)|(go_at_call 83;(with_reducible refine HStr.out.mono ?_);rintro e3 w6 ⟨s,rfl,hs,hk6⟩;have HS6:=UX (UZ hs hk6);clear hs hk6));refine bodyPost_ret (by simp[results,Tryz.func45];rfl) rfl ?_;exact⟨s,rfl,HS6.out.1,HG3.out.trans (Uw HK5.out HS6.out.2 fun i hi e=>by omega)⟩
end Go.Proofs.YtkclnhpofkaclaaGreatDoor
