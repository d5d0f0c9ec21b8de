/- What the card of the law stands on: Wr3, Print. -/
import Derived.Test.YtcimmbhdcebehaaGreatDoorRewriteNumbersP01
import Derived.Test.YtcimmbhdcebehaaGreatDoorRewriteNumbersP22
import Derived.Test.YtcimmbhdcebehaaGreatDoorRewriteNumbersP11
set_option maxRecDepth 100000
set_option maxHeartbeats 12800000
set_option linter.unusedVariables false
set_option linter.unusedSimpArgs false
namespace Go.Proofs.YtcimmbhdcebehaaGreatDoor
open Go.RowKit Pl
def encl (b:Bool) (l:List Nat):List Nat:=if b then 40::(l++[41])else l
def levF (f:Int):Nat:=if f=0∨f=1 then 1 else 2
def prTop (k f n:Int) (nm:ByteArray) (ps:List (Nat×List Nat)):List Nat:=
 if k=0 then bl (dig n.toNat)else if k=1 then bl nm else match ps with
  |[(pa,a),(pb,b)]=>encl (decide (pa<levF f)) a++bl (opS f.toNat)++encl (decide (pb≤levF f)) b
  |_=>[]
mutual
def prE:Ex→List Nat
 | .mk k f _ _ _ n _ nm _ _ ks=>prTop k f n nm (prKs ks)
def prKs:List Ex→List (Nat×List Nat)
 |[]=>[]
 |e::es=>(precE e,prE e)::prKs es
end
theorem prE_eq (e:Ex):prE e=prTop e.kind e.fn e.num e.name (prKs e.kids):=by cases e;rw[prE];rfl
def PrN (e:Ex):Prop:=(e.kind=0∧e.den=1∧∃n:Nat,n<10∧e.num=n)∨(e.kind=1∧e.fn=0∧e.offset=0∧e.ms=[]∧e.name.size≤1000)∨(e.kind=3∧(∃f:Nat,f<4∧e.fn=f)∧∃a b,e.kids=[a,b])
theorem prE_bin {e a b:Ex} {f:Nat} (hk:e.kind=3) (hf:e.fn=f) (h:e.kids=[a,b]):prE e=encl (decide (precE a<levF f)) (prE a)++bl (opS f)++encl (decide (precE b≤levF f)) (prE b):=by
 rw[prE_eq,h,hk,hf];unfold prKs prKs prKs prTop;rw[if_neg (by decide),if_neg (by decide)];simp
theorem wop_of (e:Ex) (cs:List Value) (base g N:Nat) (hob:0<base) (HWr:∀(w:World) (bs:List Nat),OTab w→RdE w base e cs→WS w base g bs→bs.length+(prE e).length+N<900000000→Calls Tryz.prog 21 #[.pointer (some ⟨g,0,none⟩),.agg cs.toArray] w (WPost base g (bs++prE e) w))
  (w:World) (bs:List Nat) (b:Bool) (hot:OTab w) (hr:RdE w base e cs) (h:WS w base g bs) (hl:bs.length+(prE e).length+N+2<900000000):
  Calls Tryz.prog 47 #[.pointer (some ⟨g,0,none⟩),.agg cs.toArray,.bool b] w (WPost base g (bs++encl b (prE e)) w):=by
 have hbs:=h.2.1;have hlen:=rdE_len hr;have hb:=Box.new w 34 cs.toArray;have hg:=(Grew.refl w).alloc (.cells cs.toArray 34);have HR:=Lib.hid (fun w' (k:Keeps (fun i=>base≤i) w w')=>RdE.keep (B':=base) hbs (Nat.le_refl _) k (fun i hi e=>by omega) e cs hr);have HW:=Lib.hid (h.grew hg);have HL:=Lib.hid (And.intro hl hlen);have HC:=Lib.hid HWr;have HO:=Lib.hid (fun w' (k:Keeps (fun i=>base≤i) w w')=>hot.keep k (by omega));clear h hr hl hlen HWr hot;rcases b with _|_
 ·go_enter Tryz.func47,Tryz.ntmps47;go_upto_region 1 with fail;change Code.wp _ _ _ _ (w.alloc (.cells cs.toArray 34));generalize w.alloc (.cells cs.toArray 34)=w1 at*;have HG:=Lib.hid hg;clear hg;go_wp2_with(first|((with_reducible refine at_load 34 (.tmp 4) rfl ?_);refine ldN 34 Tryz.underlying34 rfl (.tmp 4) (w.heap.size) cs 34 (by rw[HL.out.2];exact infoX) rfl rfl rfl hb ?_)|(go_at_call 21;(with_reducible refine(HC.out w1 bs (HO.out _ (Grew.keeps HG.out)) (HR.out _ (Grew.keeps HG.out)) HW.out (by have:=HL.out.1;omega)).mono ?_);rintro e3 w4 ⟨⟨u,rfl⟩,hws,hk,hkb⟩;have HF:=Lib.hid (And.intro hws (And.intro hk hkb));clear hws hk hkb));go_end0;exact⟨⟨_,rfl⟩,HF.out.1,Keeps.then_ (Grew.keeps HG.out) HF.out.2.1 fun i _ h=>h,(KB.grew HG.out).trans HF.out.2.2⟩
 go_enter Tryz.func47,Tryz.ntmps47;go_upto_region 1 with fail;change Code.wp _ _ _ _ (w.alloc (.cells cs.toArray 34));generalize w.alloc (.cells cs.toArray 34)=w1 at*;have HG:=Lib.hid hg;clear hg;have HB1:=Lib.hid (show ∀w',WS w' base g bs→Calls Tryz.prog 69 #[.pointer (some ⟨g,0,none⟩),.int .u8 40] w' (WPost base g (bs++[40]) w')from fun w' h=>wrByte_any w' base g bs 40 h (by have:=HL.out.1;omega));have HB2:=Lib.hid (show ∀w',WS w' base g (bs++[40]++prE e)→Calls Tryz.prog 69 #[.pointer (some ⟨g,0,none⟩),.int .u8 41] w' (WPost base g (bs++[40]++prE e++[41]) w')from fun w' h=>wrByte_any w' base g _ 41 h (by have:=HL.out.1;simp;omega));go_upto_region 3 with(go_at_call 69;(with_reducible refine(HB1.out _ HW.out).mono ?_);rintro e3 w2 ⟨⟨u,rfl⟩,hws,hk,hkb⟩;have HF:=Lib.hid (And.intro hws (And.intro hk hkb));clear hws hk hkb);have hb2:=HF.out.2.2 _ _ _ hb (by decide) (by decide);go_upto_region 4 with(first|((with_reducible refine at_load 34 (.tmp 4) rfl ?_);refine ldN 34 Tryz.underlying34 rfl (.tmp 4) (w.heap.size) cs 34 (by rw[HL.out.2];exact infoX) rfl rfl rfl hb2 ?_)|(go_at_call 21;(with_reducible refine(HC.out w2 (bs++[40]) (HO.out _ (Keeps.then_ (Grew.keeps HG.out) HF.out.2.1 fun i _ h=>h)) (HR.out _ (Keeps.then_ (Grew.keeps HG.out) HF.out.2.1 fun i _ h=>h)) HF.out.1 (by have:=HL.out.1;simp;omega)).mono ?_);rintro e3 w4 ⟨⟨u2,rfl⟩,hws,hk,hkb⟩;have HF2:=Lib.hid (And.intro hws (And.intro hk hkb));clear hws hk hkb));go_wp2_with(go_at_call 69;(with_reducible refine(HB2.out _ HF2.out.1).mono ?_);rintro e3 w5 ⟨⟨u3,rfl⟩,hws,hk,hkb⟩;have HF3:=Lib.hid (And.intro hws (And.intro hk hkb));clear hws hk hkb);go_end0;refine⟨⟨_,rfl⟩,?_,Keeps.then_ (Keeps.then_ (Keeps.then_ (Grew.keeps HG.out) HF.out.2.1 fun i _ h=>h) HF2.out.2.1 fun i _ h=>h) HF3.out.2.1 fun i _ h=>h,(((KB.grew HG.out).trans HF.out.2.2).trans HF2.out.2.2).trans HF3.out.2.2⟩;have h:=HF3.out.1;rw[show bs++encl true (prE e)=bs++[40]++prE e++[41] by unfold encl;simp];exact h
theorem opS_size {f:Nat} (h:f<4):(opS f).size=1:=by
 rcases(show f=0∨f=1∨f=2∨f=3 by omega)with rfl|rfl|rfl|rfl<;>rfl
theorem lev_lt {f:Nat} (h:f<4) {e:Ex} (hk:e.kind=3) (hf:e.fn=f):precE e=levF f:=by
 unfold precE levF;rw[if_pos hk,hf]
theorem write_any:∀(k:Nat) (e:Ex),nodesE e≤k→k≤1000000→AllE PrN e→∀(base g:Nat) (cs:List Value) (w:World) (bs:List Nat),OTab w→0<base→RdE w base e cs→WS w base g bs→bs.length+(prE e).length+4*nodesE e<900000000→
  Calls Tryz.prog 21 #[.pointer (some ⟨g,0,none⟩),.agg cs.toArray] w (WPost base g (bs++prE e) w)
 |0,e,h,_,_,_,_,_,_,_,_,_,_,_,_=>absurd (nodes_pos e) (by omega)
 |k+1,e,hk,hk2,hpr,base,g,cs,w,bs,hot,hob,hr,h,hl=>by
  have hbs:=h.2.1;have hcl:=rdE_len hr;obtain⟨vm,vb,vk,rfl, -, -,hT⟩:=hr.open_;have hb:=Box.new w 34 (cells11 e vm vb vk).toArray;have hg:=(Grew.refl w).alloc (.cells (cells11 e vm vb vk).toArray 34);have HW:=Lib.hid (h.grew hg);have HR:=Lib.hid hr;have HBS:=Lib.hid hbs;have HL:=Lib.hid hl;have HT:=Lib.hid hT;rcases hpr.top with⟨h0,hd,n,hn,hnum⟩|⟨h1,hf,ho,hms,hns⟩|⟨h3,⟨f,hf4,hf⟩,ea,eb,hks⟩
  ·have hp:prE e=bl (dig n):=by rw[prE_eq];unfold prTop;rw[if_pos h0,hnum];rfl
   rw[hp]at HL ⊢;have HN:=Lib.hid (fun w' (h:WS w' base g bs)=>wrNum_any w' base g bs n hn h (by have:=HL.out;omega));clear hp h hr hl hk hot;go_enter Tryz.func21,Tryz.ntmps21;go_upto_region 1 with fail;change Code.wp _ _ _ _ (w.alloc (.cells (cells11 e vm vb vk).toArray 34));generalize w.alloc (.cells (cells11 e vm vb vk).toArray 34)=w1 at*;have c0:w1.cell? ⟨w.heap.size,0,none⟩=some (.int .i64 0):=by rw[←h0];exact hb.cell 0
   have hrf:w1.rangeAt w.heap.size 5 (fracL (n:Nat) 1):=by
    have h5:=hb.rangeN 5 (fracL e.num e.den) rfl;rwa[hnum,hd]at h5
   have HG:=Lib.hid hg;clear hg hb h0 hd hnum;go_wp2_with(first|((with_reducible refine at_load 23 (.tmp 10) rfl ?_);refine wpList_load_mid rfl 23 (.tmp 10) rfl w.heap.size 5 rfl (fracL (n:Nat) 1) _ hrf Tryz.underlying23 rfl infoF ?_)|(go_at_call 43;(with_reducible refine(HN.out w1 HW.out).mono ?_);rintro e3 w4 ⟨⟨u,rfl⟩,hws,hk,hkb⟩;have HF:=Lib.hid (And.intro hws (And.intro hk hkb));clear hws hk hkb));go_end0;exact⟨⟨_,rfl⟩,HF.out.1,Keeps.then_ (Grew.keeps HG.out) HF.out.2.1 fun i _ h=>h,(KB.grew HG.out).trans HF.out.2.2⟩
  ·have hp:prE e=bl e.name:=by rw[prE_eq];unfold prTop;rw[if_neg (by rw[h1];decide),if_pos h1]
   rw[hp]at HL ⊢;have HN:=Lib.hid (fun w' (hr:RdE w' base e (cells11 e vm vb vk)) (h:WS w' base g bs)=>wrSel_any e (cells11 e vm vb vk) w' base g bs hr h (by have:=HL.out;omega) (by omega) hms hf ho);have hr1:=RdE.keep (B':=base) hbs (Nat.le_refl _) hg (fun _ _ h=>h) e _ hr;have HR1:=Lib.hid hr1;clear hp h hr hl hk hot hr1;go_enter Tryz.func21,Tryz.ntmps21;go_upto_region 1 with fail;change Code.wp _ _ _ _ (w.alloc (.cells (cells11 e vm vb vk).toArray 34));generalize w.alloc (.cells (cells11 e vm vb vk).toArray 34)=w1 at*;have c0:w1.cell? ⟨w.heap.size,0,none⟩=some (.int .i64 1):=by rw[←h1];exact hb.cell 0
   have HG:=Lib.hid hg;clear hg h1 hf ho hms;go_wp2_with(first|((with_reducible refine at_load 34 (.tmp 3) rfl ?_);refine ldN 34 Tryz.underlying34 rfl (.tmp 3) (w.heap.size) (cells11 e vm vb vk) 34 infoX rfl rfl rfl hb ?_)|(go_at_call 44;(with_reducible refine(HN.out w1 HR1.out HW.out).mono ?_);rintro e3 w4 ⟨⟨u,rfl⟩,hws,hk,hkb⟩;have HF:=Lib.hid (And.intro hws (And.intro hk hkb));clear hws hk hkb));go_end0;exact⟨⟨_,rfl⟩,HF.out.1,Keeps.then_ (Grew.keeps HG.out) HF.out.2.1 fun i _ h=>h,(KB.grew HG.out).trans HF.out.2.2⟩
  have hp:=prE_bin h3 hf hks;have hne:=nodes_eq e;have hna:=nodesKs_mem (show ea∈e.kids by rw[hks];simp);have hnb:=nodesKs_mem (show eb∈e.kids by rw[hks];simp);rw[hp]at HL ⊢;have hos:=opS_size hf4;obtain⟨A,n,c,rfl,hn2, -⟩:=hT.slice;obtain rfl:n=2:=by rw[hn2,hks];rfl
  have hTT:=hT;rw[hks]at hTT;obtain⟨b,o,ca,rfl,hbb,hra,hea⟩:=hTT.at_ (j:=0) (e:=ea) rfl;obtain⟨b',o',cb,hbo, -,hrb,heb⟩:=hTT.at_ (j:=1) (e:=eb) rfl;simp only[Option.some.injEq,Addr.mk.injEq,and_true]at hbo;obtain⟨rfl,rfl⟩:=hbo;rw[Nat.zero_mul,Nat.add_zero]at hra;rw[Nat.one_mul]at hrb;have HRd:=Lib.hid (show ∀w',Keeps (fun i=>base≤i) w w'→RdE w' base ea ca∧RdE w' base eb cb∧w'.rangeAt b o ca∧w'.rangeAt b (o+11) cb∧OTab w' from fun w' k=>⟨RdE.keep hbs (Nat.le_refl _) k (fun i hi e=>by omega) ea ca hea,RdE.keep hbs (Nat.le_refl _) k (fun i hi e=>by omega) eb cb heb,rangeAt_keep hra (by omega) k (by omega),rangeAt_keep hrb (by omega) k (by omega),hot.keep k (by omega)⟩);have HLN:=Lib.hid (And.intro (rdE_len hea) (rdE_len heb));have HPe:=Lib.hid (show precE e=levF f from lev_lt hf4 h3 hf);have HWa:=Lib.hid (fun w' bs' (hr:RdE w' base ea ca) (ho:OTab w') (h:WS w' base g bs') (hl:bs'.length+(prE ea).length+4*nodesE ea<900000000)=>write_any k ea (by omega) (by omega) (hpr.kid (by rw[hks];simp)) base g ca w' bs' ho hob hr h hl);have HWb:=Lib.hid (fun w' bs' (hr:RdE w' base eb cb) (ho:OTab w') (h:WS w' base g bs') (hl:bs'.length+(prE eb).length+4*nodesE eb<900000000)=>write_any k eb (by omega) (by omega) (hpr.kid (by rw[hks];simp)) base g cb w' bs' ho hob hr h hl);have HOa:=Lib.hid (fun w' bs' x ho (hr:RdE w' base ea ca) (h:WS w' base g bs') hl=>wop_of ea ca base g (4*nodesE ea) hob (fun w bs ho hr h hl=>HWa.out w bs hr ho h hl) w' bs' x ho hr h hl);have HOb:=Lib.hid (fun w' bs' x ho (hr:RdE w' base eb cb) (h:WS w' base g bs') hl=>wop_of eb cb base g (4*nodesE eb) hob (fun w bs ho hr h hl=>HWb.out w bs hr ho h hl) w' bs' x ho hr h hl);have HBB:=Lib.hid (show b<base from hbb);obtain⟨x1,hx1⟩:∃x,decide (precE ea<levF f)=x:=⟨_,rfl⟩;obtain⟨x2,hx2⟩:∃x,decide (precE eb≤levF f)=x:=⟨_,rfl⟩;obtain⟨pa,hpa⟩:∃x,precE ea=x:=⟨_,rfl⟩;obtain⟨pb,hpb⟩:∃x,precE eb=x:=⟨_,rfl⟩;obtain⟨lv,hlv⟩:∃x,levF f=x:=⟨_,rfl⟩;rw[hx1,hx2]at HL ⊢;rw[hpa,hlv]at hx1;rw[hpb,hlv]at hx2;rw[hlv]at HPe;have HPC:=Lib.hid (fun w' cs (hr:RdE w' w'.heap.size e cs)=>prec_any e cs w' hr);have HPA:=Lib.hid (fun w' (hr:RdE w' w'.heap.size ea ca)=>prec_any ea ca w' hr);have HPB:=Lib.hid (fun w' (hr:RdE w' w'.heap.size eb cb)=>prec_any eb cb w' hr);rw[HPe.out]at HPC;rw[hpa]at HPA;rw[hpb]at HPB;have HLE:=Lib.hid (show(encl x1 (prE ea)).length≤(prE ea).length+2∧(encl x2 (prE eb)).length≤(prE eb).length+2∧(prE ea).length≤(encl x1 (prE ea)).length∧(prE eb).length≤(encl x2 (prE eb)).length∧(bl (opS f)).length=1∧nodesE ea+nodesE eb+1≤nodesE e from by
   refine⟨?_,?_,?_,?_,by rw[bl_length,hos],by rw[hne,hks];unfold nodesKs nodesKs nodesKs;omega⟩<;>(unfold encl;split<;>simp<;>omega))
  have hr1:=RdE.keep (B':=(w.alloc (.cells (cells11 e vm vb (.slice (some ⟨b,o,none⟩) 2 c)).toArray 34)).heap.size) hbs (Nat.le_trans hbs hg.size) hg (fun _ _ h=>h) e _ hr;have HR1:=Lib.hid hr1;have HF:=Lib.hid (And.intro hf hf4);have HX:=Lib.hid (And.intro hx1 hx2);clear HWa HWb;clear hp h hr hl hk hk2 hot hr1 hTT hT hra hrb hea heb hne hna hnb hks hpr hn2 hx1 hx2 hpa hpb hlv HR HT hos hcl HPe hbb;go_enter Tryz.func21,Tryz.ntmps21;go_upto_region 1 with fail;change Code.wp _ _ _ _ (w.alloc (.cells (cells11 e vm vb (.slice (some ⟨b,o,none⟩) 2 c)).toArray 34));generalize w.alloc (.cells (cells11 e vm vb (.slice (some ⟨b,o,none⟩) 2 c)).toArray 34)=w1 at*;have c0:w1.cell? ⟨w.heap.size,0,none⟩=some (.int .i64 3):=by rw[←h3];exact hb.cell 0
  have HG:=Lib.hid hg;have HB:=Lib.hid hb;clear hg h3 hf;go_upto_region 10 with(first|((with_reducible refine at_load 34 (.tmp 3) rfl ?_);refine ldN 34 Tryz.underlying34 rfl (.tmp 3) (w.heap.size) (cells11 e vm vb (.slice (some ⟨b,o,none⟩) 2 c)) 34 infoX rfl rfl rfl hb ?_)|(go_at_call 46;(with_reducible refine(HPC.out w1 _ HR1.out).mono ?_);rintro e3 w2 ⟨rfl,k2⟩;have HG2:=Lib.hid (HG.out.trans k2);have HW2:=Lib.hid (HW.out.grew k2);have HB2:=Lib.hid (HB.out.grew k2);clear k2));clear hb c0;have HRA:=Lib.hid (show w2.drew.rangeAt b o ca∧w2.drew.rangeAt b (o+11) cb from⟨(HRd.out _ (Keeps.drew (Grew.keeps HG2.out))).2.2.1,(HRd.out _ (Keeps.drew (Grew.keeps HG2.out))).2.2.2.1⟩);have HP0:=Lib.hid (fun w' (hg:Grew w2.drew w')=>HPA.out w' (RdE.keep (B':=w'.heap.size) (Nat.le_trans HBS.out HG2.out.size) (by have h1:=hg.size;have h2:=HG2.out.size;have h3:=HBS.out;have h4:w2.drew.heap.size=w2.heap.size:=rfl;omega) ((Keeps.drew (Grew.refl w2)).trans hg) (fun _ _ h=>h) ea ca (HRd.out _ (Grew.keeps HG2.out)).1));refine region_lastT (by kernel_rfl) 12 [.pointer (some ⟨g,0,none⟩),.pointer (some ⟨w.heap.size,10,none⟩),.slice (some ⟨b,o,none⟩) 2 c,.pointer (some ⟨b,o,none⟩),.agg ca.toArray,.pointer (some ⟨w.heap.size,10,none⟩),.slice (some ⟨b,o,none⟩) 2 c,.pointer (some ⟨b,o,none⟩),.agg ca.toArray,.int .i64 (pa:Nat),.int .i64 (lv:Nat),.bool x1] _ (by kernel_rfl) (by kernel_rfl) (by kernel_rfl) rfl ?sH _ rfl rfl (by kernel_rfl) (by kernel_rfl) ?sT
  case sH=>
   simp only[List.toList_toArray,List.take_succ_cons,List.take_zero,putAll,Act.put,List.setIfInBounds_toArray,List.set_cons_zero,List.set_cons_succ];refine headG_run (by kernel_rfl) (fun w' hg=>?_) ?_
   ·go_simp;exact Grew.refl _
   refine headG_run (by kernel_rfl) (fun w' hg=>?_) ?_
   ·go_simp;exact Grew.refl _
   refine headG_run (by kernel_rfl) (fun w' hg=>?_) ?_
   ·have hc:w'.cell? ⟨w.heap.size,10,none⟩=some (.slice (some ⟨b,o,none⟩) 2 c):=(HB2.out.drew.grew hg).cell 10;go_simp;exact Grew.refl _
   refine headG_run (by kernel_rfl) (fun w' hg=>?_) ?_
   ·go_simp;exact Grew.refl _
   refine headG_run (by kernel_rfl) (fun w' hg=>?_) ?_
   ·refine wp_load_mid 34 (.tmp 30) rfl b (o) rfl ca _ (rangeAt_keep HRA.out.1 (Nat.lt_of_lt_of_le HBB.out (Nat.le_trans HBS.out HG2.out.size)) hg (fun h=>h)) Tryz.underlying34 rfl (by rw[HLN.out.1];exact infoX) ?_;exact⟨rfl,Grew.refl _⟩
   refine headG_run (by kernel_rfl) (fun w' hg=>?_) ?_
   ·go_simp;exact Grew.refl _
   refine headG_run (by kernel_rfl) (fun w' hg=>?_) ?_
   ·have hc:w'.cell? ⟨w.heap.size,10,none⟩=some (.slice (some ⟨b,o,none⟩) 2 c):=(HB2.out.drew.grew hg).cell 10;go_simp;exact Grew.refl _
   refine headG_run (by kernel_rfl) (fun w' hg=>?_) ?_
   ·go_simp;exact Grew.refl _
   refine headG_run (by kernel_rfl) (fun w' hg=>?_) ?_
   ·refine wp_load_mid 34 (.tmp 34) rfl b (o) rfl ca _ (rangeAt_keep HRA.out.1 (Nat.lt_of_lt_of_le HBB.out (Nat.le_trans HBS.out HG2.out.size)) hg (fun h=>h)) Tryz.underlying34 rfl (by rw[HLN.out.1];exact infoX) ?_;exact⟨rfl,Grew.refl _⟩
   refine headG_run (by kernel_rfl) (fun w' hg=>?_) ?_
   ·go_simp;(with_reducible refine(HP0.out _ hg).mono ?_);rintro e wq ⟨rfl,kq⟩;exact⟨rfl,kq⟩
   refine headG_run (by kernel_rfl) (fun w' hg=>?_) ?_
   ·go_simp;exact Grew.refl _
   refine headG_run (by kernel_rfl) (fun w' hg=>?_) ?_
   ·go_simp;exact⟨HX.out.1,Grew.refl _⟩
   exact headG_nil
  case sT=>
   intro wn hgn;simp only[List.toList_toArray,List.take_succ_cons,List.take_zero,putAll,Act.put,List.setIfInBounds_toArray,List.set_cons_zero,List.set_cons_succ];go_simp;(with_reducible refine(HOa.out wn bs x1 (HRd.out _ (Grew.keeps (HG2.out.trans hgn))).2.2.2.2 (HRd.out _ (Grew.keeps (HG2.out.trans hgn))).1 (HW2.out.grew hgn) (by have:=HL.out;have:=HLE.out;simp only[List.length_append]at*;omega)).mono ?_);rintro e3 w3 ⟨⟨u,rfl⟩,hws,hk,hkb⟩;have HF3:=Lib.hid (And.intro hws (And.intro (show Keeps (fun i=>base≤i) w w3 from Keeps.then_ (Grew.keeps (HG2.out.trans hgn)) hk fun i _ h=>h) (show KB w2 w3 from(KB.grew hgn).trans hkb)));clear hws hk hkb HOa HP0 HRA;have hb3:=HF3.out.2.2 _ _ _ HB2.out (by decide) (by decide);have c1:w3.cell? ⟨w.heap.size,1,none⟩=some (.int .i64 (f:Nat)):=by rw[←HF.out.1];exact hb3.cell 1
   have ot3:=(HRd.out _ HF3.out.2.1).2.2.2.2;have hf4:=HF.out.2;have co:w3.cell? ⟨0,f,none⟩=some (.string (opS f)):=ot3.2 f (opS f) (by rcases(show f=0∨f=1∨f=2∨f=3 by omega)with rfl|rfl|rfl|rfl<;>rfl);have hi1:(0:Int)≤(f:Int)∧(f:Int)<4:=by omega
   obtain⟨hi1,hi2⟩:=hi1;have HWo:=Lib.hid (show ∀w',WS w' base g (bs++encl x1 (prE ea))→Calls Tryz.prog 48 #[.pointer (some ⟨g,0,none⟩),.string (opS f)] w' (WPost base g (bs++encl x1 (prE ea)++bl (opS f)) w')from fun w' h=>wrStr_any w' base g _ (opS f) h (by have:=HL.out;simp only[List.length_append]at*;omega) (by rw[opS_size hf4];omega));go_upto_region 12 with(go_at_call 48;(with_reducible refine(HWo.out _ HF3.out.1).mono ?_);rintro e3 w4 ⟨⟨u4,rfl⟩,hws,hk,hkb⟩;have HF4:=Lib.hid (And.intro hws (And.intro hk hkb));clear hws hk hkb);have HB4:=Lib.hid (HF4.out.2.2 _ _ _ hb3 (by decide) (by decide));have HK4:=Lib.hid (show Keeps (fun i=>base≤i) w w4 from Keeps.then_ HF3.out.2.1 HF4.out.2.1 fun i _ h=>h);clear hb3 c1 ot3 co hi1 hi2 HWo;have HRA:=Lib.hid (show w4.drew.rangeAt b o ca∧w4.drew.rangeAt b (o+11) cb from⟨(HRd.out _ (Keeps.drew HK4.out)).2.2.1,(HRd.out _ (Keeps.drew HK4.out)).2.2.2.1⟩);have HP1:=Lib.hid (fun w' (hg:Grew w4.drew w')=>HPB.out w' (RdE.keep (B':=w'.heap.size) (Nat.le_trans HBS.out HK4.out.size) (by have h1:=hg.size;have h2:=HK4.out.size;have h3:=HBS.out;have h4:w4.drew.heap.size=w4.heap.size:=rfl;omega) ((Keeps.drew (Grew.refl w4)).trans hg) (fun _ _ h=>h) eb cb (HRd.out _ HK4.out).2.1));refine region_lastT (by kernel_rfl) 12 [.pointer (some ⟨g,0,none⟩),.pointer (some ⟨w.heap.size,10,none⟩),.slice (some ⟨b,o,none⟩) 2 c,.pointer (some ⟨b,o+11,none⟩),.agg cb.toArray,.pointer (some ⟨w.heap.size,10,none⟩),.slice (some ⟨b,o,none⟩) 2 c,.pointer (some ⟨b,o+11,none⟩),.agg cb.toArray,.int .i64 (pb:Nat),.int .i64 (lv:Nat),.bool x2] _ (by kernel_rfl) (by kernel_rfl) (by kernel_rfl) rfl ?sH2 _ rfl rfl (by kernel_rfl) (by kernel_rfl) ?sT2
   case sH2=>
    simp only[List.toList_toArray,List.take_succ_cons,List.take_zero,putAll,Act.put,List.setIfInBounds_toArray,List.set_cons_zero,List.set_cons_succ];refine headG_run (by kernel_rfl) (fun w' hg=>?_) ?_
    ·go_simp;exact Grew.refl _
    refine headG_run (by kernel_rfl) (fun w' hg=>?_) ?_
    ·go_simp;exact Grew.refl _
    refine headG_run (by kernel_rfl) (fun w' hg=>?_) ?_
    ·have hc:w'.cell? ⟨w.heap.size,10,none⟩=some (.slice (some ⟨b,o,none⟩) 2 c):=(HB4.out.drew.grew hg).cell 10;go_simp;exact Grew.refl _
    refine headG_run (by kernel_rfl) (fun w' hg=>?_) ?_
    ·go_simp;exact Grew.refl _
    refine headG_run (by kernel_rfl) (fun w' hg=>?_) ?_
    ·refine wp_load_mid 34 (.tmp 49) rfl b (o+11) rfl cb _ (rangeAt_keep HRA.out.2 (Nat.lt_of_lt_of_le HBB.out (Nat.le_trans HBS.out HK4.out.size)) hg (fun h=>h)) Tryz.underlying34 rfl (by rw[HLN.out.2];exact infoX) ?_;exact⟨rfl,Grew.refl _⟩
    refine headG_run (by kernel_rfl) (fun w' hg=>?_) ?_
    ·go_simp;exact Grew.refl _
    refine headG_run (by kernel_rfl) (fun w' hg=>?_) ?_
    ·have hc:w'.cell? ⟨w.heap.size,10,none⟩=some (.slice (some ⟨b,o,none⟩) 2 c):=(HB4.out.drew.grew hg).cell 10;go_simp;exact Grew.refl _
    refine headG_run (by kernel_rfl) (fun w' hg=>?_) ?_
    ·go_simp;exact Grew.refl _
    refine headG_run (by kernel_rfl) (fun w' hg=>?_) ?_
    ·refine wp_load_mid 34 (.tmp 53) rfl b (o+11) rfl cb _ (rangeAt_keep HRA.out.2 (Nat.lt_of_lt_of_le HBB.out (Nat.le_trans HBS.out HK4.out.size)) hg (fun h=>h)) Tryz.underlying34 rfl (by rw[HLN.out.2];exact infoX) ?_;exact⟨rfl,Grew.refl _⟩
    refine headG_run (by kernel_rfl) (fun w' hg=>?_) ?_
    ·go_simp;(with_reducible refine(HP1.out _ hg).mono ?_);rintro e wq ⟨rfl,kq⟩;exact⟨rfl,kq⟩
    refine headG_run (by kernel_rfl) (fun w' hg=>?_) ?_
    ·go_simp;exact Grew.refl _
    refine headG_run (by kernel_rfl) (fun w' hg=>?_) ?_
    ·go_simp;exact⟨HX.out.2,Grew.refl _⟩
    exact headG_nil
   case sT2=>
    intro wn2 hgn2;simp only[List.toList_toArray,List.take_succ_cons,List.take_zero,putAll,Act.put,List.setIfInBounds_toArray,List.set_cons_zero,List.set_cons_succ];go_simp;(with_reducible refine(HOb.out wn2 (bs++encl x1 (prE ea)++bl (opS f)) x2 (HRd.out _ (Keeps.grew HK4.out hgn2)).2.2.2.2 (HRd.out _ (Keeps.grew HK4.out hgn2)).2.1 (HF4.out.1.grew hgn2) (by have:=HL.out;have:=HLE.out;simp only[List.length_append]at*;omega)).mono ?_);rintro e3 w5 ⟨⟨u5,rfl⟩,hws,hk,hkb⟩;have HF5:=Lib.hid (And.intro hws (And.intro (show Keeps (fun i=>base≤i) w w5 from Keeps.then_ (Keeps.grew HK4.out hgn2) hk fun i _ h=>h) hkb));clear hws hk hkb;go_wp2_with fail;go_end0;refine⟨⟨_,rfl⟩,?_,HF5.out.2.1,?_⟩
    ·have h:=HF5.out.1;simpa only[List.append_assoc]using h
    exact(((KB.grew HG2.out).trans HF3.out.2.2).trans HF4.out.2.2).trans ((KB.grew hgn2).trans HF5.out.2.2)
theorem printable_any:∀(k:Nat) (e:Ex),nodesE e≤k→k≤1000000→AllE PrN e→∀(w:World) (cs:List Value),RdE w w.heap.size e cs→
  Calls Tryz.prog 20 #[.agg cs.toArray] w fun e' w'=>e'= .returned (.bool true)∧Grew w w'
 |0,e,h,_,_,_,_,_=>absurd (nodes_pos e) (by omega)
 |k+1,e,hk,hk2,hpr,w,cs,hr=>by
  obtain⟨vm,vb,vk,rfl, -, -,hT⟩:=hr.open_;have hne:=nodes_eq e;have hkl:=kids_len_le e.kids;obtain⟨A,n,c,rfl,hn, -⟩:=hT.slice;have HIH:=Lib.hid (fun(e':Ex) (w':World) (cs:List Value) (h1:e'∈e.kids) (h2:RdE w' w'.heap.size e' cs)=>printable_any k e' (by have:=nodesKs_mem h1;omega) (by omega) (hpr.kid h1) w' cs h2);have HT:=Lib.hid hT;have HN:=Lib.hid hn;have hbx:=Box.new w 34 (cells11 e vm vb (.slice A n c)).toArray;have hG:=(Grew.refl w).alloc (.cells (cells11 e vm vb (.slice A n c)).toArray 34);have hnb:n≤1000000:=by omega
  have htop:=hpr.top;clear hr hT hn hne hkl hk hk2;go_enter Tryz.func20,Tryz.ntmps20;go_upto_region 1 with fail;change Code.wp _ _ _ _ (w.alloc (.cells (cells11 e vm vb (.slice A n c)).toArray 34));generalize w.alloc (.cells (cells11 e vm vb (.slice A n c)).toArray 34)=w1 at*;have HBx:=Lib.hid hbx;have HG:=Lib.hid hG;have c0:w1.cell? ⟨w.heap.size,0,none⟩=some (.int .i64 e.kind):=hbx.cell 0;by_cases h0:e.kind=0
  ·have t0:(e.kind==0)=true:=by rw[beq_iff_eq];exact h0
   obtain⟨m,hm,hnum,hd⟩:∃m:Nat,m<10∧e.num=m∧e.den=1:=by
    rcases htop with⟨_,hd,m,hm,hnum⟩|⟨h1, -⟩|⟨h1, -⟩
    ·exact⟨m,hm,hnum,hd⟩
    ·rw[h0]at h1;cases h1
    rw[h0]at h1;cases h1
   have c5:w1.cell? ⟨w.heap.size,5,none⟩=some (.int .i64 (m:Nat)):=by rw[←hnum];exact hbx.cell 5
   have c6:w1.cell? ⟨w.heap.size,6,none⟩=some (.int .i64 1):=by rw[←hd];exact hbx.cell 6
   have t1:decide ((m:Int)≥ -1073741824)=true:=by rw[decide_eq_true_iff];omega
   have t2:decide ((m:Int)≤1073741824)=true:=by rw[decide_eq_true_iff];omega
   clear hbx hG htop h0 hnum hd;go_wp2_with fail;go_ret;exact⟨rfl,HG.out⟩
  have t0:(e.kind==0)=false:=by rw[beq_eq_false_iff_ne];exact h0
  have c10:w1.cell? ⟨w.heap.size,10,none⟩=some (.slice A n c):=hbx.cell 10;clear hbx hG htop h0;go_wp2_with fail;go_loopw [4,27] (fun _ i wr=>∃(j:Nat),j≤n∧i= .int .i64 (j:Nat)∧Grew w1 wr) (fun _ i _=>n-(intOf i).toNat)
  case atStart=>exact⟨0,by omega,rfl,Grew.refl _⟩
  case round=>
   obtain⟨j,hj,rfl,hGr⟩:=hrel;by_cases hlt:j<n
   ·have hjl:j<e.kids.length:=by rw[←HN.out];exact hlt
    obtain⟨e',he'⟩:∃e',e.kids[j]? =some e':=⟨_,List.getElem?_eq_getElem hjl⟩;have hmem:e'∈e.kids:=List.mem_of_getElem? he';obtain⟨b,o,cs,rfl,hb,hrg,hre⟩:=(HT.out.grew (HG.out.trans hGr)).at_ he';obtain⟨vm',vb',vk',hcs,hm',hy',hT'⟩:=hre.open_;subst hcs;obtain⟨A1,n1,c1,rfl⟩:∃A n c,vm'= .slice A n c:=by obtain⟨A,c,h, -⟩:=hm';exact⟨A,_,c,h⟩
    obtain⟨A2,n2,c2,rfl⟩:∃A n c,vb'= .slice A n c:=by obtain⟨A,c,h, -⟩:=hy';exact⟨A,_,c,h⟩
    obtain⟨A3,n3,c3,rfl, -⟩:=hT'.slice;have HI:=Lib.hid (fun w' (g:Grew wr w')=>HIH.out e' w' _ hmem (hre.grew g));have HRg:=Lib.hid hrg;have HGr:=Lib.hid hGr;clear hjl he' hmem hrg hre hGr hm' hy' hT' c0 c10;go_wp2_with(first|((with_reducible refine at_load 34 (.tmp 29) rfl ?_);refine wpList_load_mid rfl 34 (.tmp 29) rfl b (o+j*11) rfl (cells11 e' (.slice A1 n1 c1) (.slice A2 n2 c2) (.slice A3 n3 c3)) _ HRg.out Tryz.underlying34 rfl infoX ?_)|((with_reducible refine at_store 34 (.tmp 4) (.tmp 30) rfl ?_);refine stN 34 (.tmp 4) (.tmp 30) (wr.heap.size) (cells11 e' (.slice A1 n1 c1) (.slice A2 n2 c2) (.slice A3 n3 c3)) (numL 0 0) 34 infoX rfl (cells11_ones _ _ _ _ _ _ _ _ _ _) rfl rfl rfl rfl (Box.new wr 34 _) ?_;intro w5 hb5 k5 d5;have g5:Grew wr w5:=Keeps.then_ ((Grew.refl wr).alloc _) k5 (fun i hi e=>by omega);clear k5 d5)|((with_reducible refine at_load 34 (.tmp 4) rfl ?_);refine ldN 34 Tryz.underlying34 rfl (.tmp 4) (wr.heap.size) (cells11 e' (.slice A1 n1 c1) (.slice A2 n2 c2) (.slice A3 n3 c3)) 34 infoX rfl rfl rfl hb5 ?_)|(go_at_call 20;(with_reducible refine(HI.out _ g5).mono ?_);rintro e2 w6 ⟨rfl,k6⟩;have HG6:=Lib.hid ((HGr.out.trans g5).trans k6);clear k6 g5 hb5));go_roundw
    case rel=>exact⟨j+1,by omega,by go_num,HG6.out⟩
    case measure=>simp[intOf];omega
   obtain rfl:j=n:=by omega
   go_wp2_with fail;go_ret;exact⟨rfl,HG.out.trans hGr⟩
def PrintPost (e:Ex) (w:World) (e':Ending) (w':World):Prop:=∃s,e'= .returned (.tuple #[.string s,.int .i64 0])∧bl s=prE e∧Grew w w'
theorem sbLen_any (w:World) (base g:Nat) (bs:List Nat) (h:WS w base g bs):Calls Tryz.prog 22 #[.pointer (some ⟨g,0,none⟩)] w fun e w'=>e= .returned (.int .i64 (bs.length:Nat))∧w'=w:=by
 obtain⟨-, -,p,v,hb⟩:=h;obtain⟨c0,c1⟩:=hb.cells;rcases hb.row.form with⟨rfl,hx⟩|⟨g',cap,cur,rfl, -⟩
 ·have hz:bs.length=0:=by simpa using congrArg List.length hx
  rw[hz];clear hb hx hz;go_enter Tryz.func22,Tryz.ntmps22;go_wp2_with fail;go_ret;exact⟨rfl,rfl⟩
 rw[List.length_map]at c1;clear hb;go_enter Tryz.func22,Tryz.ntmps22;go_wp2_with fail;go_ret;exact⟨rfl,rfl⟩
theorem print_any (e:Ex) (hn:nodesE e≤1000000) (hok:AllE NodeOk e) (hpr:AllE PrN e) (hv:validE e=0) (hl:0<(prE e).length∧(prE e).length≤2000) (hby:Bytes (prE e)) (w:World) (cs:List Value) (hwt:WTab w) (hot:OTab w) (hr:RdE w w.heap.size e cs):
  Calls Tryz.prog 7 #[.agg cs.toArray] w (PrintPost e w):=by
 have hcl:=rdE_len hr;have hb:=Box.new w 34 cs.toArray;have hg:=(Grew.refl w).alloc (.cells cs.toArray 34);have HR:=Lib.hid (fun w' (g:Grew w w')=>hr.grew g);have HVd:=Lib.hid (fun w' (g:Grew w w')=>pvalid_any e hn hok w' cs (hwt.grew g) (hr.grew g));rw[hv]at HVd;have HPb:=Lib.hid (fun w' (g:Grew w w')=>printable_any (nodesE e) e (Nat.le_refl _) hn hpr w' cs (hr.grew g));have HOT:=Lib.hid (fun w' (g:Grew w w')=>hot.keep g (fun h=>h));have HL:=Lib.hid (And.intro hl (And.intro hby hcl));have HNn:=Lib.hid (And.intro hn hpr);clear hr hok hpr hv hl hby hwt hot hn hcl;go_enter Tryz.func7,Tryz.ntmps7;go_upto_region 1 with fail;change Code.wp _ _ _ _ (w.alloc (.cells cs.toArray 34));generalize w.alloc (.cells cs.toArray 34)=w1 at*;have HG:=Lib.hid hg;have HB:=Lib.hid hb;clear hg;go_upto_region 2 with(first|((with_reducible refine at_load 34 (.tmp 1) rfl ?_);refine ldN 34 Tryz.underlying34 rfl (.tmp 1) (w.heap.size) cs 34 (by rw[HL.out.2.2];exact infoX) rfl rfl rfl hb ?_)|(go_at_call 19;(with_reducible refine(HVd.out _ HG.out).mono ?_);rintro e3 w2 ⟨rfl,k2⟩;have HG2:=Lib.hid (HG.out.trans k2);have hb2:=HB.out.grew k2;clear k2));clear hb;go_upto_region 6 with(first|((with_reducible refine at_load 34 (.tmp 1) rfl ?_);refine ldN 34 Tryz.underlying34 rfl (.tmp 1) (w.heap.size) cs 34 (by rw[HL.out.2.2];exact infoX) rfl rfl rfl hb2 ?_)|(go_at_call 20;(with_reducible refine(HPb.out _ HG2.out).mono ?_);rintro e3 w3 ⟨rfl,k3⟩;have HG3:=Lib.hid (HG2.out.trans k3);have hb3:=hb2.grew k3;clear k3));have HB3:=Lib.hid hb3;clear hb2 hb3;go_upto_region 7 with fail;have hbs:=Box.new w3 48 #[.pointer none,.slice none 0 0];have hg4:=(Grew.refl w3).alloc (.cells #[.pointer none,.slice none 0 0] 48);have hws:WS (w3.alloc (.cells #[.pointer none,.slice none 0 0] 48)) w3.heap.size w3.heap.size []:=⟨Nat.le_refl _,by simp,_,_,hbs,Mine.nil _ _ _,.inl rfl⟩;generalize w3.alloc (.cells #[.pointer none,.slice none 0 0] 48)=w4 at*;have HWS:=Lib.hid hws;have hr4:=RdE.keep (B':=w3.heap.size) (Nat.le_refl _) (Nat.le_refl _) hg4 (fun _ _ h=>h) e cs (HR.out w3 HG3.out);have HWr:=Lib.hid (write_any (nodesE e) e (Nat.le_refl _) HNn.out.1 HNn.out.2 w3.heap.size w3.heap.size cs w4 [] (HOT.out _ (HG3.out.trans hg4)) (by have:=(HOT.out _ HG3.out).1;omega) hr4 hws (by have:=HL.out.1;have:=HNn.out.1;simp;omega));have hb4:=HB3.out.grew hg4;have HG4:=Lib.hid hg4;clear hbs hg4 hws hr4;go_upto_region 8 with(first|((with_reducible refine at_load 34 (.tmp 1) rfl ?_);refine ldN 34 Tryz.underlying34 rfl (.tmp 1) (w.heap.size) cs 34 (by rw[HL.out.2.2];exact infoX) rfl rfl rfl hb4 ?_)|(go_at_call 21;(with_reducible refine HWr.out.mono ?_);rintro e3 w5 ⟨⟨u,rfl⟩,hws5,hk5, -⟩;have HW5:=Lib.hid hws5;have HK5:=Lib.hid (show Grew w3 w5 from Keeps.then_ HG4.out hk5 fun i hi e=>by omega);clear hws5 hk5));have HLn:=Lib.hid (sbLen_any w5 w3.heap.size w3.heap.size _ HW5.out);rw[List.nil_append]at HLn HW5;obtain⟨ln,hln⟩:∃ln,(prE e).length=ln:=⟨_,rfl⟩;rw[hln]at HLn;have tl:decide ((ln:Int)>2000)=false:=by rw[decide_eq_false_iff_not];have:=HL.out.1;omega
 have HStr:=Lib.hid (show Calls Tryz.prog 23 #[.pointer (some ⟨w3.heap.size,0,none⟩)] w5 (fun e1 w'=>∃s,e1= .returned (.string s)∧bl s=prE e∧Keeps (fun i=>w3.heap.size≤i) w5 w')from by
  obtain⟨-, -,p,v,hsb⟩:=HW5.out;exact sbString_any w3.heap.size w3.heap.size p v (prE e) w5 hsb HL.out.1.1 HL.out.2.1 (by have:=HL.out.1;omega))
 have HLX:=Lib.hid hln;clear hln;go_wp2_with(first|(go_at_call 22;(with_reducible refine HLn.out.mono ?_);rintro e3 w9 ⟨rfl,hw9⟩;obtain rfl:=hw9.symm;clear hw9)|(go_at_call 23;(with_reducible refine HStr.out.mono ?_);rintro e3 w6 ⟨s,rfl,hs,hk6⟩;have HS6:=Lib.hid (And.intro hs hk6);clear hs hk6));refine bodyPost_ret (by simp[results,Tryz.func7];rfl) rfl ?_;exact⟨s,rfl,HS6.out.1,HG3.out.trans (Keeps.then_ HK5.out HS6.out.2 fun i hi e=>by omega)⟩
end Go.Proofs.YtcimmbhdcebehaaGreatDoor
