/- What the card of the law stands on: Wr3, Print, SeqG. -/
import Derived.Test.YthpflelgbadkcaaGreatDoorRewriteReadsP01
import Derived.Test.YthpflelgbadkcaaGreatDoorRewriteReadsP21
import Derived.Test.YthpflelgbadkcaaGreatDoorRewriteReadsP10
import Derived.Test.YthpflelgbadkcaaGreatDoorRewriteReadsP09
set_option maxRecDepth 100000
set_option maxHeartbeats 12800000
set_option linter.unusedVariables false
set_option linter.unusedSimpArgs false
namespace Go.Proofs.YthpflelgbadkcaaGreatDoor
open Go.RowKit Pl
def G6 (b:Bool) (l:List Nat):List Nat:=if b then 40::(l++[41])else l
def J3 (f:Int):Nat:=if f=0∨f=1 then 1 else 2
def Kf (k f n:Int) (nm:ByteArray) (ms:List Mt) (ps:List (Nat×List Nat)):List Nat:=
 if k=0 then bl (QU n.toNat)else if k=1 then bl nm++Lh ms else match ps with
  |[(pa,a),(pb,b)]=>G6 (decide (pa<J3 f)) a++bl (Lj f.toNat)++G6 (decide (pb≤J3 f)) b
  |_=>[]
mutual
def ED:Ex→List Nat
 | .mk k f _ _ _ n _ nm ms _ ks=>Kf k f n nm ms (ND ks)
def ND:List Ex→List (Nat×List Nat)
 |[]=>[]
 |e::es=>(Cz e,ED e)::ND es
end
theorem MR (e:Ex):ED e=Kf e.kind e.fn e.num e.name e.ms (ND e.kids):=by cases e;rw[ED];rfl
def QD (e:Ex):Prop:=(e.kind=0∧e.den=1∧∃n:Nat,n<10∧e.num=n)∨(e.kind=1∧e.fn=0∧e.offset=0∧Q4 e.ms∧e.name.size≤1000)∨(e.kind=3∧(∃f:Nat,f<4∧e.fn=f)∧∃a b,e.kids=[a,b])
theorem Q3 {e a b:Ex} {f:Nat} (hk:e.kind=3) (hf:e.fn=f) (h:e.kids=[a,b]):ED e=G6 (decide (Cz a<J3 f)) (ED a)++bl (Lj f)++G6 (decide (Cz b≤J3 f)) (ED b):=by
 rw[MR,h,hk,hf];unfold ND ND ND Kf;rw[SQ (by decide),SQ (by decide)];simp
theorem Pf (e:Ex) (cs:List Value) (base g N:Nat) (hob:1<base∧4<base) (HWr:∀(w:World) (bs:List Nat),Dc w→BZ w base e cs→WS w base g bs→bs.length+(ED e).length+N<900000000→Calls Tryz.prog 101 #[.pointer (some ⟨g,0,none⟩),.agg cs.toArray] w (EV base g (bs++ED e) w))
  (w:World) (bs:List Nat) (b:Bool) (hot:Dc w) (hr:BZ w base e cs) (h:WS w base g bs) (hl:bs.length+(ED e).length+N+2<900000000):
  Calls Tryz.prog 131 #[.pointer (some ⟨g,0,none⟩),.agg cs.toArray,.bool b] w (EV base g (bs++G6 b (ED e)) w):=by
 have hbs:=h.2.1;have hlen:=BX hr;have hb:=Sc w 29 cs.toArray;have hg:=(Sa w).alloc (.cells cs.toArray 29);have HR:=S9 (fun w' (k:AC (fun i=>base≤i) w w')=>BZ.keep (B':=base) hbs (SD _) k (fun i hi e=>by omega) e cs hr);have HW:=S9 (h.grew hg);have HL:=S9 (SC hl hlen);have HC:=S9 HWr;have HO:=S9 (fun w' (k:AC (fun i=>base≤i) w w')=>hot.keep k (by omega));clear h hr hl hlen HWr hot;rcases b with _|_
 ·go_enter Tryz.func131,Tryz.ntmps131;go_upto_region 1 with fail;change Code.wp _ _ _ _ (w.alloc (.cells cs.toArray 29));generalize w.alloc (.cells cs.toArray 29)=w1 at*;have HG:=S9 hg;clear hg;go_wp2_with(first|((with_reducible refine AG 29 (.tmp 4) rfl ?_);refine BR 29 Tryz.underlying29 rfl (.tmp 4) (w.heap.size) cs 29 (by rw[HL.out.2];exact AD) rfl rfl rfl hb ?_)|(go_at_call 101;(with_reducible refine(HC.out w1 bs (HO.out _ (Si HG.out)) (HR.out _ (Si HG.out)) HW.out (by have:=HL.out.1;omega)).mono ?_);rintro e3 w4 ⟨⟨u,rfl⟩,hws,hk,hkb⟩;have HF:=S9 (SC hws (SC hk hkb));clear hws hk hkb));go_end0;exact⟨⟨_,rfl⟩,HF.out.1,Sb (Si HG.out) HF.out.2.1 fun i _ h=>h,(KB.grew HG.out).trans HF.out.2.2⟩
 go_enter Tryz.func131,Tryz.ntmps131;go_upto_region 1 with fail;change Code.wp _ _ _ _ (w.alloc (.cells cs.toArray 29));generalize w.alloc (.cells cs.toArray 29)=w1 at*;have HG:=S9 hg;clear hg;have HB1:=S9 (show ∀w',WS w' base g bs→Calls Tryz.prog 148 #[.pointer (some ⟨g,0,none⟩),.int .u8 40] w' (EV base g (bs++[40]) w')from fun w' h=>Dt w' base g bs 40 h (by have:=HL.out.1;omega));have HB2:=S9 (show ∀w',WS w' base g (bs++[40]++ED e)→Calls Tryz.prog 148 #[.pointer (some ⟨g,0,none⟩),.int .u8 41] w' (EV base g (bs++[40]++ED e++[41]) w')from fun w' h=>Dt w' base g _ 41 h (by have:=HL.out.1;simp;omega));go_upto_region 3 with(go_at_call 148;(with_reducible refine(HB1.out _ HW.out).mono ?_);rintro e3 w2 ⟨⟨u,rfl⟩,hws,hk,hkb⟩;have HF:=S9 (SC hws (SC hk hkb));clear hws hk hkb);have hb2:=HF.out.2.2 _ _ _ hb (by decide) (by decide);go_upto_region 4 with(first|((with_reducible refine AG 29 (.tmp 4) rfl ?_);refine BR 29 Tryz.underlying29 rfl (.tmp 4) (w.heap.size) cs 29 (by rw[HL.out.2];exact AD) rfl rfl rfl hb2 ?_)|(go_at_call 101;(with_reducible refine(HC.out w2 (bs++[40]) (HO.out _ (Sb (Si HG.out) HF.out.2.1 fun i _ h=>h)) (HR.out _ (Sb (Si HG.out) HF.out.2.1 fun i _ h=>h)) HF.out.1 (by have:=HL.out.1;simp;omega)).mono ?_);rintro e3 w4 ⟨⟨u2,rfl⟩,hws,hk,hkb⟩;have HF2:=S9 (SC hws (SC hk hkb));clear hws hk hkb));go_wp2_with(go_at_call 148;(with_reducible refine(HB2.out _ HF2.out.1).mono ?_);rintro e3 w5 ⟨⟨u3,rfl⟩,hws,hk,hkb⟩;have HF3:=S9 (SC hws (SC hk hkb));clear hws hk hkb);go_end0;refine⟨⟨_,rfl⟩,?_,Sb (Sb (Sb (Si HG.out) HF.out.2.1 fun i _ h=>h) HF2.out.2.1 fun i _ h=>h) HF3.out.2.1 fun i _ h=>h,(((KB.grew HG.out).trans HF.out.2.2).trans HF2.out.2.2).trans HF3.out.2.2⟩;have h:=HF3.out.1;rw[show bs++G6 true (ED e)=bs++[40]++ED e++[41] by unfold G6;simp];exact h
theorem LR {f:Nat} (h:f<4):(Lj f).size=1:=by
 rcases(show f=0∨f=1∨f=2∨f=3 by omega)with rfl|rfl|rfl|rfl<;>rfl
theorem Qv {f:Nat} (h:f<4) {e:Ex} (hk:e.kind=3) (hf:e.fn=f):Cz e=J3 f:=by
 unfold Cz J3;rw[SR hk,hf]
theorem Gp:∀(k:Nat) (e:Ex),AL e≤k→k≤1000000→BL QD e→∀(base g:Nat) (cs:List Value) (w:World) (bs:List Nat),Dc w→1<base∧4<base→BZ w base e cs→WS w base g bs→bs.length+(ED e).length+4*AL e<900000000→
  Calls Tryz.prog 101 #[.pointer (some ⟨g,0,none⟩),.agg cs.toArray] w (EV base g (bs++ED e) w)
 |0,e,h,_,_,_,_,_,_,_,_,_,_,_,_=>absurd (Aw e) (by omega)
 |k+1,e,hk,hk2,hpr,base,g,cs,w,bs,hot,hob,hr,h,hl=>by
  have hbs:=h.2.1;have hcl:=BX hr;obtain⟨vm,vb,vk,rfl, -, -,hT⟩:=hr.open_;have hb:=Sc w 29 (AE e vm vb vk).toArray;have hg:=(Sa w).alloc (.cells (AE e vm vb vk).toArray 29);have HW:=S9 (h.grew hg);have HR:=S9 hr;have HBS:=S9 hbs;have HL:=S9 hl;have HT:=S9 hT;rcases hpr.top with⟨h0,hd,n,hn,hnum⟩|⟨h1,hf,ho,hms,hns⟩|⟨h3,⟨f,hf4,hf⟩,ea,eb,hks⟩
  ·have hp:ED e=bl (QU n):=by rw[MR];unfold Kf;rw[SR h0,hnum];rfl
   rw[hp]at HL ⊢;have HN:=S9 (fun w' (h:WS w' base g bs)=>NK w' base g bs n hn h (by have:=HL.out;omega));clear hp h hr hl hk hot;go_enter Tryz.func101,Tryz.ntmps101;go_upto_region 1 with fail;change Code.wp _ _ _ _ (w.alloc (.cells (AE e vm vb vk).toArray 29));generalize w.alloc (.cells (AE e vm vb vk).toArray 29)=w1 at*;have c0:w1.cell? ⟨w.heap.size,0,none⟩=some (.int .i64 0):=by rw[←h0];exact hb.cell 0
   have hrf:w1.rangeAt w.heap.size 5 (AN (n:Nat) 1):=by
    have h5:=hb.rangeN 5 (AN e.num e.den) rfl;rwa[hnum,hd]at h5
   have HG:=S9 hg;clear hg hb h0 hd hnum;go_wp2_with(first|((with_reducible refine AG 24 (.tmp 10) rfl ?_);refine wpList_load_mid rfl 24 (.tmp 10) rfl w.heap.size 5 rfl (AN (n:Nat) 1) _ hrf Tryz.underlying24 rfl Ad ?_)|(go_at_call 127;(with_reducible refine(HN.out w1 HW.out).mono ?_);rintro e3 w4 ⟨⟨u,rfl⟩,hws,hk,hkb⟩;have HF:=S9 (SC hws (SC hk hkb));clear hws hk hkb));go_end0;exact⟨⟨_,rfl⟩,HF.out.1,Sb (Si HG.out) HF.out.2.1 fun i _ h=>h,(KB.grew HG.out).trans HF.out.2.2⟩
  ·have hp:ED e=bl e.name++Lh e.ms:=by rw[MR];unfold Kf;rw[SQ (by rw[h1];decide),SR h1]
   rw[hp]at HL ⊢;have HN:=S9 (fun w' (hr:BZ w' base e (AE e vm vb vk)) (h:WS w' base g bs) (hm:NN w')=>Nz e (AE e vm vb vk) w' base g bs hr h hm hob.2 (by have:=HL.out;omega) (by omega) hms hf ho);have hr1:=BZ.keep (B':=base) hbs (SD _) hg (fun _ _ h=>h) e _ hr;have HR1:=S9 hr1;have HM1:=S9 (hot.2.2.keep hg (fun h=>h));clear hp h hr hl hk hot hr1;go_enter Tryz.func101,Tryz.ntmps101;go_upto_region 1 with fail;change Code.wp _ _ _ _ (w.alloc (.cells (AE e vm vb vk).toArray 29));generalize w.alloc (.cells (AE e vm vb vk).toArray 29)=w1 at*;have c0:w1.cell? ⟨w.heap.size,0,none⟩=some (.int .i64 1):=by rw[←h1];exact hb.cell 0
   have HG:=S9 hg;clear hg h1 hf ho hms;go_wp2_with(first|((with_reducible refine AG 29 (.tmp 3) rfl ?_);refine BR 29 Tryz.underlying29 rfl (.tmp 3) (w.heap.size) (AE e vm vb vk) 29 AD rfl rfl rfl hb ?_)|(go_at_call 128;(with_reducible refine(HN.out w1 HR1.out HW.out HM1.out).mono ?_);rintro e3 w4 ⟨⟨u,rfl⟩,hws,hk,hkb⟩;have HF:=S9 (SC hws (SC hk hkb));clear hws hk hkb));go_end0;exact⟨⟨_,rfl⟩,HF.out.1,Sb (Si HG.out) HF.out.2.1 fun i _ h=>h,(KB.grew HG.out).trans HF.out.2.2⟩
  have hp:=Q3 h3 hf hks;have hne:=B9 e;have hna:=Aa (show ea∈e.kids by rw[hks];simp);have hnb:=Aa (show eb∈e.kids by rw[hks];simp);rw[hp]at HL ⊢;have hos:=LR hf4;obtain⟨A,n,c,rfl,hn2, -⟩:=hT.slice;obtain rfl:n=2:=by rw[hn2,hks];rfl
  have hTT:=hT;rw[hks]at hTT;obtain⟨b,o,ca,rfl,hbb,hra,hea⟩:=hTT.at_ (j:=0) (e:=ea) rfl;obtain⟨b',o',cb,hbo, -,hrb,heb⟩:=hTT.at_ (j:=1) (e:=eb) rfl;simp only[SW,Addr.mk.injEq,and_true]at hbo;obtain⟨rfl,rfl⟩:=hbo;rw[Nat.zero_mul,Nat.add_zero]at hra;rw[Nat.one_mul]at hrb;have HRd:=S9 (show ∀w',AC (fun i=>base≤i) w w'→BZ w' base ea ca∧BZ w' base eb cb∧w'.rangeAt b o ca∧w'.rangeAt b (o+11) cb∧Dc w' from fun w' k=>⟨BZ.keep hbs (SD _) k (fun i hi e=>by omega) ea ca hea,BZ.keep hbs (SD _) k (fun i hi e=>by omega) eb cb heb,Ao hra (by omega) k (by omega),Ao hrb (by omega) k (by omega),hot.keep k (by omega)⟩);have HLN:=S9 (SC (BX hea) (BX heb));have HPe:=S9 (show Cz e=J3 f from Qv hf4 h3 hf);have HWa:=S9 (fun w' bs' (hr:BZ w' base ea ca) (ho:Dc w') (h:WS w' base g bs') (hl:bs'.length+(ED ea).length+4*AL ea<900000000)=>Gp k ea (by omega) (by omega) (hpr.kid (by rw[hks];simp)) base g ca w' bs' ho hob hr h hl);have HWb:=S9 (fun w' bs' (hr:BZ w' base eb cb) (ho:Dc w') (h:WS w' base g bs') (hl:bs'.length+(ED eb).length+4*AL eb<900000000)=>Gp k eb (by omega) (by omega) (hpr.kid (by rw[hks];simp)) base g cb w' bs' ho hob hr h hl);have HOa:=S9 (fun w' bs' x ho (hr:BZ w' base ea ca) (h:WS w' base g bs') hl=>Pf ea ca base g (4*AL ea) hob (fun w bs ho hr h hl=>HWa.out w bs hr ho h hl) w' bs' x ho hr h hl);have HOb:=S9 (fun w' bs' x ho (hr:BZ w' base eb cb) (h:WS w' base g bs') hl=>Pf eb cb base g (4*AL eb) hob (fun w bs ho hr h hl=>HWb.out w bs hr ho h hl) w' bs' x ho hr h hl);have HBB:=S9 (show b<base from hbb);obtain⟨x1,hx1⟩:∃x,decide (Cz ea<J3 f)=x:=⟨_,rfl⟩;obtain⟨x2,hx2⟩:∃x,decide (Cz eb≤J3 f)=x:=⟨_,rfl⟩;obtain⟨pa,hpa⟩:∃x,Cz ea=x:=⟨_,rfl⟩;obtain⟨pb,hpb⟩:∃x,Cz eb=x:=⟨_,rfl⟩;obtain⟨lv,hlv⟩:∃x,J3 f=x:=⟨_,rfl⟩;rw[hx1,hx2]at HL ⊢;rw[hpa,hlv]at hx1;rw[hpb,hlv]at hx2;rw[hlv]at HPe;have HPC:=S9 (fun w' cs (hr:BZ w' w'.heap.size e cs)=>IQ e cs w' hr);have HPA:=S9 (fun w' (hr:BZ w' w'.heap.size ea ca)=>IQ ea ca w' hr);have HPB:=S9 (fun w' (hr:BZ w' w'.heap.size eb cb)=>IQ eb cb w' hr);rw[HPe.out]at HPC;rw[hpa]at HPA;rw[hpb]at HPB;have HLE:=S9 (show(G6 x1 (ED ea)).length≤(ED ea).length+2∧(G6 x2 (ED eb)).length≤(ED eb).length+2∧(ED ea).length≤(G6 x1 (ED ea)).length∧(ED eb).length≤(G6 x2 (ED eb)).length∧(bl (Lj f)).length=1∧AL ea+AL eb+1≤AL e from by
   refine⟨?_,?_,?_,?_,by rw[C6,hos],by rw[hne,hks];unfold Af Af Af;omega⟩<;>(unfold G6;split<;>simp<;>omega))
  have hr1:=BZ.keep (B':=(w.alloc (.cells (AE e vm vb (.slice (some ⟨b,o,none⟩) 2 c)).toArray 29)).heap.size) hbs (SH hbs hg.size) hg (fun _ _ h=>h) e _ hr;have HR1:=S9 hr1;have HF:=S9 (SC hf hf4);have HX:=S9 (SC hx1 hx2);clear HWa HWb;clear hp h hr hl hk hk2 hot hr1 hTT hT hra hrb hea heb hne hna hnb hks hpr hn2 hx1 hx2 hpa hpb hlv HR HT hos hcl HPe hbb;go_enter Tryz.func101,Tryz.ntmps101;go_upto_region 1 with fail;change Code.wp _ _ _ _ (w.alloc (.cells (AE e vm vb (.slice (some ⟨b,o,none⟩) 2 c)).toArray 29));generalize w.alloc (.cells (AE e vm vb (.slice (some ⟨b,o,none⟩) 2 c)).toArray 29)=w1 at*;have c0:w1.cell? ⟨w.heap.size,0,none⟩=some (.int .i64 3):=by rw[←h3];exact hb.cell 0
  have HG:=S9 hg;have HB:=S9 hb;clear hg h3 hf;go_upto_region 10 with(first|((with_reducible refine AG 29 (.tmp 3) rfl ?_);refine BR 29 Tryz.underlying29 rfl (.tmp 3) (w.heap.size) (AE e vm vb (.slice (some ⟨b,o,none⟩) 2 c)) 29 AD rfl rfl rfl hb ?_)|(go_at_call 130;(with_reducible refine(HPC.out w1 _ HR1.out).mono ?_);rintro e3 w2 ⟨rfl,k2⟩;have HG2:=S9 (HG.out.trans k2);have HW2:=S9 (HW.out.grew k2);have HB2:=S9 (HB.out.grew k2);clear k2));clear hb c0;have HRA:=S9 (show w2.drew.rangeAt b o ca∧w2.drew.rangeAt b (o+11) cb from⟨(HRd.out _ (Sd (Si HG2.out))).2.2.1,(HRd.out _ (Sd (Si HG2.out))).2.2.2.1⟩);have HP0:=S9 (fun w' (hg:A5 w2.drew w')=>HPA.out w' (BZ.keep (B':=w'.heap.size) (SH HBS.out HG2.out.size) (by have h1:=hg.size;have h2:=HG2.out.size;have h3:=HBS.out;have h4:w2.drew.heap.size=w2.heap.size:=rfl;omega) ((Sd (Sa w2)).trans hg) (fun _ _ h=>h) ea ca (HRd.out _ (Si HG2.out)).1));refine GO (by kernel_rfl) 12 [.pointer (some ⟨g,0,none⟩),.pointer (some ⟨w.heap.size,10,none⟩),.slice (some ⟨b,o,none⟩) 2 c,.pointer (some ⟨b,o,none⟩),.agg ca.toArray,.pointer (some ⟨w.heap.size,10,none⟩),.slice (some ⟨b,o,none⟩) 2 c,.pointer (some ⟨b,o,none⟩),.agg ca.toArray,.int .i64 (pa:Nat),.int .i64 (lv:Nat),.bool x1] _ (by kernel_rfl) (by kernel_rfl) (by kernel_rfl) rfl ?sH _ rfl rfl (by kernel_rfl) (by kernel_rfl) ?sT
  case sH=>
   simp only[List.toList_toArray,List.take_succ_cons,List.take_zero,AI,Act.put,List.setIfInBounds_toArray,List.set_cons_zero,List.set_cons_succ];refine A4 (by kernel_rfl) (fun w' hg=>?_) ?_
   ·go_simp;exact Sa _
   refine A4 (by kernel_rfl) (fun w' hg=>?_) ?_
   ·go_simp;exact Sa _
   refine A4 (by kernel_rfl) (fun w' hg=>?_) ?_
   ·have hc:w'.cell? ⟨w.heap.size,10,none⟩=some (.slice (some ⟨b,o,none⟩) 2 c):=(HB2.out.drew.grew hg).cell 10;go_simp;exact Sa _
   refine A4 (by kernel_rfl) (fun w' hg=>?_) ?_
   ·go_simp;exact Sa _
   refine A4 (by kernel_rfl) (fun w' hg=>?_) ?_
   ·refine wp_load_mid 29 (.tmp 30) rfl b (o) rfl ca _ (Ao HRA.out.1 (SE HBB.out (SH HBS.out HG2.out.size)) hg (fun h=>h)) Tryz.underlying29 rfl (by rw[HLN.out.1];exact AD) ?_;exact⟨rfl,Sa _⟩
   refine A4 (by kernel_rfl) (fun w' hg=>?_) ?_
   ·go_simp;exact Sa _
   refine A4 (by kernel_rfl) (fun w' hg=>?_) ?_
   ·have hc:w'.cell? ⟨w.heap.size,10,none⟩=some (.slice (some ⟨b,o,none⟩) 2 c):=(HB2.out.drew.grew hg).cell 10;go_simp;exact Sa _
   refine A4 (by kernel_rfl) (fun w' hg=>?_) ?_
   ·go_simp;exact Sa _
   refine A4 (by kernel_rfl) (fun w' hg=>?_) ?_
   ·refine wp_load_mid 29 (.tmp 34) rfl b (o) rfl ca _ (Ao HRA.out.1 (SE HBB.out (SH HBS.out HG2.out.size)) hg (fun h=>h)) Tryz.underlying29 rfl (by rw[HLN.out.1];exact AD) ?_;exact⟨rfl,Sa _⟩
   refine A4 (by kernel_rfl) (fun w' hg=>?_) ?_
   ·go_simp;(with_reducible refine(HP0.out _ hg).mono ?_);rintro e wq ⟨rfl,kq⟩;exact⟨rfl,kq⟩
   refine A4 (by kernel_rfl) (fun w' hg=>?_) ?_
   ·go_simp;exact Sa _
   refine A4 (by kernel_rfl) (fun w' hg=>?_) ?_
   ·go_simp;exact⟨HX.out.1,Sa _⟩
   exact AQ
  case sT=>
   intro wn hgn;simp only[List.toList_toArray,List.take_succ_cons,List.take_zero,AI,Act.put,List.setIfInBounds_toArray,List.set_cons_zero,List.set_cons_succ];go_simp;(with_reducible refine(HOa.out wn bs x1 (HRd.out _ (Si (HG2.out.trans hgn))).2.2.2.2 (HRd.out _ (Si (HG2.out.trans hgn))).1 (HW2.out.grew hgn) (by have:=HL.out;have:=HLE.out;simp only[SX]at*;omega)).mono ?_);rintro e3 w3 ⟨⟨u,rfl⟩,hws,hk,hkb⟩;have HF3:=S9 (SC hws (SC (show AC (fun i=>base≤i) w w3 from Sb (Si (HG2.out.trans hgn)) hk fun i _ h=>h) (show KB w2 w3 from(KB.grew hgn).trans hkb)));clear hws hk hkb HOa HP0 HRA;have hb3:=HF3.out.2.2 _ _ _ HB2.out (by decide) (by decide);have c1:w3.cell? ⟨w.heap.size,1,none⟩=some (.int .i64 (f:Nat)):=by rw[←HF.out.1];exact hb3.cell 1
   have ot3:=(HRd.out _ HF3.out.2.1).2.2.2.2;have hf4:=HF.out.2;have co:w3.cell? ⟨1,f,none⟩=some (.string (Lj f)):=ot3.2.1 f (Lj f) (by rcases(show f=0∨f=1∨f=2∨f=3 by omega)with rfl|rfl|rfl|rfl<;>rfl);have hi1:(0:Int)≤(f:Int)∧(f:Int)<4:=by omega
   obtain⟨hi1,hi2⟩:=hi1;have HWo:=S9 (show ∀w',WS w' base g (bs++G6 x1 (ED ea))→Calls Tryz.prog 132 #[.pointer (some ⟨g,0,none⟩),.string (Lj f)] w' (EV base g (bs++G6 x1 (ED ea)++bl (Lj f)) w')from fun w' h=>CZ w' base g _ (Lj f) h (by have:=HL.out;simp only[SX]at*;omega) (by rw[LR hf4];omega));go_upto_region 12 with(go_at_call 132;(with_reducible refine(HWo.out _ HF3.out.1).mono ?_);rintro e3 w4 ⟨⟨u4,rfl⟩,hws,hk,hkb⟩;have HF4:=S9 (SC hws (SC hk hkb));clear hws hk hkb);have HB4:=S9 (HF4.out.2.2 _ _ _ hb3 (by decide) (by decide));have HK4:=S9 (show AC (fun i=>base≤i) w w4 from Sb HF3.out.2.1 HF4.out.2.1 fun i _ h=>h);clear hb3 c1 ot3 co hi1 hi2 HWo;have HRA:=S9 (show w4.drew.rangeAt b o ca∧w4.drew.rangeAt b (o+11) cb from⟨(HRd.out _ (Sd HK4.out)).2.2.1,(HRd.out _ (Sd HK4.out)).2.2.2.1⟩);have HP1:=S9 (fun w' (hg:A5 w4.drew w')=>HPB.out w' (BZ.keep (B':=w'.heap.size) (SH HBS.out HK4.out.size) (by have h1:=hg.size;have h2:=HK4.out.size;have h3:=HBS.out;have h4:w4.drew.heap.size=w4.heap.size:=rfl;omega) ((Sd (Sa w4)).trans hg) (fun _ _ h=>h) eb cb (HRd.out _ HK4.out).2.1));refine GO (by kernel_rfl) 12 [.pointer (some ⟨g,0,none⟩),.pointer (some ⟨w.heap.size,10,none⟩),.slice (some ⟨b,o,none⟩) 2 c,.pointer (some ⟨b,o+11,none⟩),.agg cb.toArray,.pointer (some ⟨w.heap.size,10,none⟩),.slice (some ⟨b,o,none⟩) 2 c,.pointer (some ⟨b,o+11,none⟩),.agg cb.toArray,.int .i64 (pb:Nat),.int .i64 (lv:Nat),.bool x2] _ (by kernel_rfl) (by kernel_rfl) (by kernel_rfl) rfl ?sH2 _ rfl rfl (by kernel_rfl) (by kernel_rfl) ?sT2
   case sH2=>
    simp only[List.toList_toArray,List.take_succ_cons,List.take_zero,AI,Act.put,List.setIfInBounds_toArray,List.set_cons_zero,List.set_cons_succ];refine A4 (by kernel_rfl) (fun w' hg=>?_) ?_
    ·go_simp;exact Sa _
    refine A4 (by kernel_rfl) (fun w' hg=>?_) ?_
    ·go_simp;exact Sa _
    refine A4 (by kernel_rfl) (fun w' hg=>?_) ?_
    ·have hc:w'.cell? ⟨w.heap.size,10,none⟩=some (.slice (some ⟨b,o,none⟩) 2 c):=(HB4.out.drew.grew hg).cell 10;go_simp;exact Sa _
    refine A4 (by kernel_rfl) (fun w' hg=>?_) ?_
    ·go_simp;exact Sa _
    refine A4 (by kernel_rfl) (fun w' hg=>?_) ?_
    ·refine wp_load_mid 29 (.tmp 49) rfl b (o+11) rfl cb _ (Ao HRA.out.2 (SE HBB.out (SH HBS.out HK4.out.size)) hg (fun h=>h)) Tryz.underlying29 rfl (by rw[HLN.out.2];exact AD) ?_;exact⟨rfl,Sa _⟩
    refine A4 (by kernel_rfl) (fun w' hg=>?_) ?_
    ·go_simp;exact Sa _
    refine A4 (by kernel_rfl) (fun w' hg=>?_) ?_
    ·have hc:w'.cell? ⟨w.heap.size,10,none⟩=some (.slice (some ⟨b,o,none⟩) 2 c):=(HB4.out.drew.grew hg).cell 10;go_simp;exact Sa _
    refine A4 (by kernel_rfl) (fun w' hg=>?_) ?_
    ·go_simp;exact Sa _
    refine A4 (by kernel_rfl) (fun w' hg=>?_) ?_
    ·refine wp_load_mid 29 (.tmp 53) rfl b (o+11) rfl cb _ (Ao HRA.out.2 (SE HBB.out (SH HBS.out HK4.out.size)) hg (fun h=>h)) Tryz.underlying29 rfl (by rw[HLN.out.2];exact AD) ?_;exact⟨rfl,Sa _⟩
    refine A4 (by kernel_rfl) (fun w' hg=>?_) ?_
    ·go_simp;(with_reducible refine(HP1.out _ hg).mono ?_);rintro e wq ⟨rfl,kq⟩;exact⟨rfl,kq⟩
    refine A4 (by kernel_rfl) (fun w' hg=>?_) ?_
    ·go_simp;exact Sa _
    refine A4 (by kernel_rfl) (fun w' hg=>?_) ?_
    ·go_simp;exact⟨HX.out.2,Sa _⟩
    exact AQ
   case sT2=>
    intro Ro hgn2;simp only[List.toList_toArray,List.take_succ_cons,List.take_zero,AI,Act.put,List.setIfInBounds_toArray,List.set_cons_zero,List.set_cons_succ];go_simp;(with_reducible refine(HOb.out Ro (bs++G6 x1 (ED ea)++bl (Lj f)) x2 (HRd.out _ (AC.grew HK4.out hgn2)).2.2.2.2 (HRd.out _ (AC.grew HK4.out hgn2)).2.1 (HF4.out.1.grew hgn2) (by have:=HL.out;have:=HLE.out;simp only[SX]at*;omega)).mono ?_);rintro e3 w5 ⟨⟨u5,rfl⟩,hws,hk,hkb⟩;have HF5:=S9 (SC hws (SC (show AC (fun i=>base≤i) w w5 from Sb (AC.grew HK4.out hgn2) hk fun i _ h=>h) hkb));clear hws hk hkb;go_wp2_with fail;go_end0;refine⟨⟨_,rfl⟩,?_,HF5.out.2.1,?_⟩
    ·have h:=HF5.out.1;simpa only[List.append_assoc]using h
    exact(((KB.grew HG2.out).trans HF3.out.2.2).trans HF4.out.2.2).trans ((KB.grew hgn2).trans HF5.out.2.2)
theorem Fm:∀(k:Nat) (e:Ex),AL e≤k→k≤1000000→BL QD e→∀(w:World) (cs:List Value),BZ w w.heap.size e cs→
  Calls Tryz.prog 100 #[.agg cs.toArray] w fun e' w'=>e'= .returned (.bool true)∧A5 w w'
 |0,e,h,_,_,_,_,_=>absurd (Aw e) (by omega)
 |k+1,e,hk,hk2,hpr,w,cs,hr=>by
  obtain⟨vm,vb,vk,rfl, -, -,hT⟩:=hr.open_;have hne:=B9 e;have hkl:=Bh e.kids;obtain⟨A,n,c,rfl,hn, -⟩:=hT.slice;have HIH:=S9 (fun(e':Ex) (w':World) (cs:List Value) (h1:e'∈e.kids) (h2:BZ w' w'.heap.size e' cs)=>Fm k e' (by have:=Aa h1;omega) (by omega) (hpr.kid h1) w' cs h2);have HT:=S9 hT;have HN:=S9 hn;have hbx:=Sc w 29 (AE e vm vb (.slice A n c)).toArray;have hG:=(Sa w).alloc (.cells (AE e vm vb (.slice A n c)).toArray 29);have hnb:n≤1000000:=by omega
  have htop:=hpr.top;clear hr hT hn hne hkl hk hk2;go_enter Tryz.func100,Tryz.ntmps100;go_upto_region 1 with fail;change Code.wp _ _ _ _ (w.alloc (.cells (AE e vm vb (.slice A n c)).toArray 29));generalize w.alloc (.cells (AE e vm vb (.slice A n c)).toArray 29)=w1 at*;have HBx:=S9 hbx;have HG:=S9 hG;have c0:w1.cell? ⟨w.heap.size,0,none⟩=some (.int .i64 e.kind):=hbx.cell 0;by_cases h0:e.kind=0
  ·have t0:(e.kind==0)=true:=by rw[SG];exact h0
   obtain⟨m,hm,hnum,hd⟩:∃m:Nat,m<10∧e.num=m∧e.den=1:=by
    rcases htop with⟨_,hd,m,hm,hnum⟩|⟨h1, -⟩|⟨h1, -⟩
    ·exact⟨m,hm,hnum,hd⟩
    ·rw[h0]at h1;cases h1
    rw[h0]at h1;cases h1
   have c5:w1.cell? ⟨w.heap.size,5,none⟩=some (.int .i64 (m:Nat)):=by rw[←hnum];exact hbx.cell 5
   have c6:w1.cell? ⟨w.heap.size,6,none⟩=some (.int .i64 1):=by rw[←hd];exact hbx.cell 6
   have t1:decide ((m:Int)≥ -1073741824)=true:=by rw[decide_eq_true_iff];omega
   have t2:decide ((m:Int)≤1073741824)=true:=by rw[decide_eq_true_iff];omega
   clear hbx hG htop h0 hnum hd;go_wp2_with fail;go_ret;exact⟨rfl,HG.out⟩
  have t0:(e.kind==0)=false:=by rw[SA];exact h0
  have c10:w1.cell? ⟨w.heap.size,10,none⟩=some (.slice A n c):=hbx.cell 10;clear hbx hG htop h0;go_wp2_with fail;go_loopw [4,27] (fun _ i wr=>∃(j:Nat),j≤n∧i= .int .i64 (j:Nat)∧A5 w1 wr) (fun _ i _=>n-(intOf i).toNat)
  case atStart=>exact⟨0,by omega,rfl,Sa _⟩
  case round=>
   obtain⟨j,hj,rfl,hGr⟩:=hrel;by_cases hlt:j<n
   ·have hjl:j<e.kids.length:=by rw[←HN.out];exact hlt
    obtain⟨e',he'⟩:∃e',e.kids[j]? =some e':=⟨_,SF hjl⟩;have hmem:e'∈e.kids:=SN he';obtain⟨b,o,cs,rfl,hb,hrg,hre⟩:=(HT.out.grew (HG.out.trans hGr)).at_ he';obtain⟨vm',vb',vk',hcs,hm',hy',hT'⟩:=hre.open_;subst hcs;obtain⟨A1,n1,c1,rfl⟩:∃A n c,vm'= .slice A n c:=by obtain⟨A,c,h, -⟩:=hm';exact⟨A,_,c,h⟩
    obtain⟨A2,n2,c2,rfl⟩:∃A n c,vb'= .slice A n c:=by obtain⟨A,c,h, -⟩:=hy';exact⟨A,_,c,h⟩
    obtain⟨A3,n3,c3,rfl, -⟩:=hT'.slice;have HI:=S9 (fun w' (g:A5 wr w')=>HIH.out e' w' _ hmem (hre.grew g));have HRg:=S9 hrg;have HGr:=S9 hGr;clear hjl he' hmem hrg hre hGr hm' hy' hT' c0 c10;go_wp2_with(first|((with_reducible refine AG 29 (.tmp 29) rfl ?_);refine wpList_load_mid rfl 29 (.tmp 29) rfl b (o+j*11) rfl (AE e' (.slice A1 n1 c1) (.slice A2 n2 c2) (.slice A3 n3 c3)) _ HRg.out Tryz.underlying29 rfl AD ?_)|((with_reducible refine AF 29 (.tmp 4) (.tmp 30) rfl ?_);refine Ar 29 (.tmp 4) (.tmp 30) (wr.heap.size) (AE e' (.slice A1 n1 c1) (.slice A2 n2 c2) (.slice A3 n3 c3)) (AH 0 0) 29 AD rfl (Ay _ _ _ _ _ _ _ _ _ _) rfl rfl rfl rfl (Sc wr 29 _) ?_;intro w5 hb5 k5 d5;have g5:A5 wr w5:=Sb ((Sa wr).alloc _) k5 (fun i hi e=>by omega);clear k5 d5)|((with_reducible refine AG 29 (.tmp 4) rfl ?_);refine BR 29 Tryz.underlying29 rfl (.tmp 4) (wr.heap.size) (AE e' (.slice A1 n1 c1) (.slice A2 n2 c2) (.slice A3 n3 c3)) 29 AD rfl rfl rfl hb5 ?_)|(go_at_call 100;(with_reducible refine(HI.out _ g5).mono ?_);rintro e2 w6 ⟨rfl,k6⟩;have HG6:=S9 ((HGr.out.trans g5).trans k6);clear k6 g5 hb5));go_roundw
    case rel=>exact⟨j+1,by omega,by go_num,HG6.out⟩
    case measure=>simp[intOf];omega
   obtain rfl:j=n:=by omega
   go_wp2_with fail;go_ret;exact⟨rfl,HG.out.trans hGr⟩
def Jf (e:Ex) (w:World) (e':Ending) (w':World):Prop:=∃s,e'= .returned (.tuple #[.string s,.int .i64 0])∧bl s=ED e∧A5 w w'
theorem Mw (w:World) (base g:Nat) (bs:List Nat) (h:WS w base g bs):Calls Tryz.prog 102 #[.pointer (some ⟨g,0,none⟩)] w fun e w'=>e= .returned (.int .i64 (bs.length:Nat))∧w'=w:=by
 obtain⟨-, -,p,v,hb⟩:=h;obtain⟨c0,c1⟩:=hb.cells;rcases hb.row.form with⟨rfl,hx⟩|⟨g',cap,cur,rfl, -⟩
 ·have hz:bs.length=0:=by simpa using congrArg List.length hx
  rw[hz];clear hb hx hz;go_enter Tryz.func102,Tryz.ntmps102;go_wp2_with fail;go_ret;exact⟨rfl,rfl⟩
 rw[List.length_map]at c1;clear hb;go_enter Tryz.func102,Tryz.ntmps102;go_wp2_with fail;go_ret;exact⟨rfl,rfl⟩
theorem JK (e:Ex) (hn:AL e≤1000000) (hok:BL Be e) (hpr:BL QD e) (hv:Ca e=0) (hl:0<(ED e).length∧(ED e).length≤2000) (hby:Bytes (ED e)) (w:World) (cs:List Value) (hwt:D5 w) (hot:Dc w) (hr:BZ w w.heap.size e cs):
  Calls Tryz.prog 67 #[.agg cs.toArray] w (Jf e w):=by
 have hcl:=BX hr;have hb:=Sc w 29 cs.toArray;have hg:=(Sa w).alloc (.cells cs.toArray 29);have HR:=S9 (fun w' (g:A5 w w')=>hr.grew g);have HVd:=S9 (fun w' (g:A5 w w')=>Ek e hn hok w' cs (hwt.grew g) (hr.grew g));rw[hv]at HVd;have HPb:=S9 (fun w' (g:A5 w w')=>Fm (AL e) e (SD _) hn hpr w' cs (hr.grew g));have HOT:=S9 (fun w' (g:A5 w w')=>hot.keep g (fun h=>h));have HL:=S9 (SC hl (SC hby hcl));have HNn:=S9 (SC hn hpr);clear hr hok hpr hv hl hby hwt hot hn hcl;go_enter Tryz.func67,Tryz.ntmps67;go_upto_region 1 with fail;change Code.wp _ _ _ _ (w.alloc (.cells cs.toArray 29));generalize w.alloc (.cells cs.toArray 29)=w1 at*;have HG:=S9 hg;have HB:=S9 hb;clear hg;go_upto_region 2 with(first|((with_reducible refine AG 29 (.tmp 1) rfl ?_);refine BR 29 Tryz.underlying29 rfl (.tmp 1) (w.heap.size) cs 29 (by rw[HL.out.2.2];exact AD) rfl rfl rfl hb ?_)|(go_at_call 12;(with_reducible refine(HVd.out _ HG.out).mono ?_);rintro e3 w2 ⟨rfl,k2⟩;have HG2:=S9 (HG.out.trans k2);have hb2:=HB.out.grew k2;clear k2));clear hb;go_upto_region 6 with(first|((with_reducible refine AG 29 (.tmp 1) rfl ?_);refine BR 29 Tryz.underlying29 rfl (.tmp 1) (w.heap.size) cs 29 (by rw[HL.out.2.2];exact AD) rfl rfl rfl hb2 ?_)|(go_at_call 100;(with_reducible refine(HPb.out _ HG2.out).mono ?_);rintro e3 w3 ⟨rfl,k3⟩;have HG3:=S9 (HG2.out.trans k3);have hb3:=hb2.grew k3;clear k3));have HB3:=S9 hb3;clear hb2 hb3;go_upto_region 7 with fail;have hbs:=Sc w3 156 #[.pointer none,.slice none 0 0];have hg4:=(Sa w3).alloc (.cells #[.pointer none,.slice none 0 0] 156);have hws:WS (w3.alloc (.cells #[.pointer none,.slice none 0 0] 156)) w3.heap.size w3.heap.size []:=⟨SD _,by simp,_,_,hbs,Ba.nil _ _ _,.inl rfl⟩;generalize w3.alloc (.cells #[.pointer none,.slice none 0 0] 156)=w4 at*;have HWS:=S9 hws;have hr4:=BZ.keep (B':=w3.heap.size) (SD _) (SD _) hg4 (fun _ _ h=>h) e cs (HR.out w3 HG3.out);have HWr:=S9 (Gp (AL e) e (SD _) HNn.out.1 HNn.out.2 w3.heap.size w3.heap.size cs w4 [] (HOT.out _ (HG3.out.trans hg4)) ⟨by have:=(HOT.out _ HG3.out).1;omega,by have:=(HOT.out _ HG3.out).2.2.1;omega⟩ hr4 hws (by have:=HL.out.1;have:=HNn.out.1;simp;omega));have hb4:=HB3.out.grew hg4;have HG4:=S9 hg4;clear hbs hg4 hws hr4;go_upto_region 8 with(first|((with_reducible refine AG 29 (.tmp 1) rfl ?_);refine BR 29 Tryz.underlying29 rfl (.tmp 1) (w.heap.size) cs 29 (by rw[HL.out.2.2];exact AD) rfl rfl rfl hb4 ?_)|(go_at_call 101;(with_reducible refine HWr.out.mono ?_);rintro e3 w5 ⟨⟨u,rfl⟩,hws5,hk5, -⟩;have HW5:=S9 hws5;have HK5:=S9 (show A5 w3 w5 from Sb HG4.out hk5 fun i hi e=>by omega);clear hws5 hk5));have HLn:=S9 (Mw w5 w3.heap.size w3.heap.size _ HW5.out);rw[List.nil_append]at HLn HW5;obtain⟨ln,hln⟩:∃ln,(ED e).length=ln:=⟨_,rfl⟩;rw[hln]at HLn;have tl:decide ((ln:Int)>2000)=false:=by rw[decide_eq_false_iff_not];have:=HL.out.1;omega
 have HStr:=S9 (show Calls Tryz.prog 103 #[.pointer (some ⟨w3.heap.size,0,none⟩)] w5 (fun e1 w'=>∃s,e1= .returned (.string s)∧bl s=ED e∧AC (fun i=>w3.heap.size≤i) w5 w')from by
  obtain⟨-, -,p,v,hsb⟩:=HW5.out;exact Jq w3.heap.size w3.heap.size p v (ED e) w5 hsb HL.out.1.1 HL.out.2.1 (by have:=HL.out.1;omega))
 have HLX:=S9 hln;clear hln;go_wp2_with(first|(go_at_call 102;(with_reducible refine HLn.out.mono ?_);rintro e3 w9 ⟨rfl,hw9⟩;obtain rfl:=hw9.symm;clear hw9)|(go_at_call 103;(with_reducible refine HStr.out.mono ?_);rintro e3 w6 ⟨s,rfl,hs,hk6⟩;have HS6:=S9 (SC hs hk6);clear hs hk6));refine bodyPost_ret (by simp[results,Tryz.func67];rfl) rfl ?_;exact⟨s,rfl,HS6.out.1,HG3.out.trans (Sb HK5.out HS6.out.2 fun i hi e=>by omega)⟩
end Go.Proofs.YthpflelgbadkcaaGreatDoor
namespace Go.Proofs.YthpflelgbadkcaaGreatDoor
section
variable {P:Program} {ops:Array Oper} {Q:Exit→Act→World→Prop}
def KE (l:List Oper) (t:Tmp):Bool:=l.all fun o=>o.dst !=some t
def LH (ops:Array Oper):List Oper→Bool
 |[]=>true
 |o::r=>(match o.guard with
   |none=>true
   |some (j,_)=>match ops[j]? with
    |some oj=>match oj.dst with
     |some t=>KE (o::r) t
     |none=>true
    |none=>true)&&(o.op.operands.all fun x=>match x with
   | .tmp t=>KE (o::r) t
   |_=>true)&&LH ops r
theorem free_spec {l:List Oper} {t:Tmp} (h:KE l t=true):∀o∈l,o.dst≠some t:=fun o ho e=>by
 have:=List.all_eq_true.1 h o ho;rw[e]at this;simp at this
theorem Mu {G:Act} {w0:World} (T:∀w,A5 w0 w→Q .normal G w):∀(l:List Oper),LH ops l=true→(∀o∈l,∀cs b,o.op≠.select cs b)→D9 P ops w0 G l→∀(a:Act) (w:World),
  (∀k,(∀o∈l,o.dst≠some k)→a.tmps[k]? =G.tmps[k]?)→a.tmps.size=G.tmps.size→a.defers=G.defers→A5 w0 w→wpList P ops Q l a w
 |[],_,_,_,a,w,hk,hs,hd,hg=>by
  have ht:a.tmps=G.tmps:=Array.ext_getElem? fun k=>hk k fun o ho=>by cases ho
  have:a=G:=by
   cases a;cases G;simp at ht hd;rw[ht,hd]
  subst this;unfold wpList;exact T w hg
 |o::r,hok,hns,hH,a,w,hk,hs,hd,hg=>by
  unfold LH at hok;simp only[Bool.and_eq_true]at hok;obtain⟨⟨hgd,hopr⟩,hok⟩:=hok;have slot:∀t,KE (o::r) t=true→a.tmps[t]? =G.tmps[t]? :=fun t h=>hk t (free_spec h)
  have hwt:Region.wanted o (yielded ops a.tmps)=Region.wanted o (yielded ops G.tmps):=by
   unfold Region.wanted;cases hg:o.guard with
   |none=>rfl
   |some p=>
    obtain⟨j,b⟩:=p;rw[hg]at hgd;simp only at hgd ⊢;have:yielded ops a.tmps j=yielded ops G.tmps j:=by
     unfold yielded;cases hoj:ops[j]? with
     |none=>rfl
     |some oj=>
      rw[hoj]at hgd;simp only at hgd;cases hdj:oj.dst with
      |none=>simp[hdj]
      |some t=>
       rw[hdj]at hgd;simp only[Option.bind_some,hdj];rw[slot t hgd]
    rw[this]
  have key:∀v w',(G.put o.dst v=G)→A5 w w'→wpList P ops Q r (a.put o.dst v) w':=fun v w' hv hgr=>by
   refine Mu T r hok (fun o' ho'=>hns o' (List.mem_cons_of_mem _ ho')) hH.2 _ _ (fun k hkk=>?_) ?_ ?_ (hg.trans hgr)
   ·cases hdo:o.dst with
    |none=>
     refine hk k fun o' ho'=>?_
     rcases List.mem_cons.1 ho' with rfl|ho'
     ·rw[hdo];simp
     exact hkk o' ho'
    |some d=>
     rw[hdo]at hv;rw[Bu];by_cases hdk:d=k
     ·subst hdk;rw[SR rfl];have h1:(G.put (some d) v).tmps[d]? =G.tmps[d]? :=by rw[hv]
      rw[Bu,SR rfl]at h1;rw[←h1,hs]
     rw[SQ hdk];refine hk k fun o' ho'=>?_
     rcases List.mem_cons.1 ho' with rfl|ho'
     ·rw[hdo];simpa using hdk
     exact hkk o' ho'
   ·cases o.dst with
    |none=>exact hs
    |some d=>simp only[Act.put,Array.size_setIfInBounds];exact hs
   cases o.dst with
   |none=>exact hd
   |some d=>exact hd
  refine wpList_step fun K hK=>?_
  rw[hwt];obtain⟨hst1,hst2⟩:=hH.1;cases hww:Region.wanted o (yielded ops G.tmps)with
  |true=>
   rw[SR rfl];have h1:=Cj (Q:=Q) (K:=K) (a:=a) (fun cs b=>hns o List.mem_cons_self cs b) (hst1 hww w hg) (fun x hx=>?_) fun v w' hv hgr=>hK _ _ (key v w' hv hgr)
   ·exact h1
   cases x with
   |tmp t=>
    have h1:=Array.all_eq_true'.1 hopr _ hx;simp only[Act.eval,Array.getD_eq_getD_getElem?,slot t h1]
   |_=>rfl
  |false=>
   rw[SQ (by simp)];exact hK _ _ (key undef w (hst2 hww) (Sa _))
theorem RJ {l:List Oper} {a:Act} {w:World} (vals:List Value) (G:Act) (hok:LH ops l=true) (hns:(l.all fun o=>match o.op with| .select _ _=>false|_=>true)=true)
  (hG:G=AI l vals a) (hH:D9 P ops w G l) (h:∀w1,A5 w w1→Q .normal G w1):wpList P ops Q l a w:=by
 refine Mu h l hok (fun o ho cs b e=>?_) hH a w (fun k hk=>?_) ?_ ?_ (Sa _)
 ·have:=List.all_eq_true.1 hns o ho;rw[e]at this;cases this
 ·rw[hG];exact(CN _ _ _ k hk).symm
 ·rw[hG];exact(BH _ _ _).1.symm
 rw[hG];exact(BH _ _ _).2.symm
theorem AK {id:Nat} {a:Act} {w:World} (vals:List Value) (G:Act) (hok:LH ops ops.toList=true) (hns:(ops.toList.all fun o=>match o.op with| .select _ _=>false|_=>true)=true)
  (hG:G=AI ops.toList vals a) (hH:D9 P ops w G ops.toList) (h:∀w1,A5 w w1→Q .normal G w1):(Code.region id ops false).wp P Q a w:=by
 refine wp_region ?_;have h1:=RJ (Q:=Q) vals G hok hns hG hH h;rw[←wpOps_eq_wpList ops.toList 0 (fun j=>by simp)]at h1;rw[List.range_eq_range'];simpa using h1
theorem AT {o:Oper} {a:Act} {w:World} {K:Act→World→Prop} (T:TypeId) (x:Operand) {b k:Nat} {v:Value} (hl:∀(w:World) (v:Value),w.cell? ⟨b,k,none⟩=some v→(loadVar T ⟨b,k,none⟩).run P w= .ok v w) (ho:o.op= .load T x) (hx:a.eval x= .pointer (some ⟨b,k,none⟩)) (hc:w.cell? ⟨b,k,none⟩=some v) (hK:K (a.put o.dst v) w):o.wp P a w K Q:=by
 unfold Oper.wp execOp;simp only[ho,hx,Instr.loadAt,Instr.sureAddr,Sem.run_bind,Sem.run_pure,Result.andThen_ok,hl w v hc];exact hK
end
end Go.Proofs.YthpflelgbadkcaaGreatDoor
