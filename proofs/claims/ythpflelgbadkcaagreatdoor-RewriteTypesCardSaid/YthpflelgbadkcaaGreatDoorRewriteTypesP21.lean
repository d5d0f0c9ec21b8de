/- What the card of the law stands on: Wr3, Print. -/
import Derived.Test.YthpflelgbadkcaaGreatDoorRewriteTypesP01
import Derived.Test.YthpflelgbadkcaaGreatDoorRewriteTypesP20
import Derived.Test.YthpflelgbadkcaaGreatDoorRewriteTypesP10
set_option maxRecDepth 100000
set_option maxHeartbeats 12800000
set_option linter.unusedVariables false
set_option linter.unusedSimpArgs false
namespace Go.Proofs.YthpflelgbadkcaaGreatDoor
open Go.RowKit Pl
def GW (b:Bool) (l:List Nat):List Nat:=if b then 40::(l++[41])else l
def Jt (f:Int):Nat:=if f=0∨f=1 then 1 else 2
def Mc (k f n:Int) (nm:ByteArray) (ms:List Mt) (ps:List (Nat×List Nat)):List Nat:=
 if k=0 then bl (SY n.toNat)else if k=1 then bl nm++Mi ms else match ps with
  |[(pa,a),(pb,b)]=>GW (decide (pa<Jt f)) a++bl (Ml f.toNat)++GW (decide (pb≤Jt f)) b
  |_=>[]
mutual
def EZ:Ex→List Nat
 | .mk k f _ _ _ n _ nm ms _ ks=>Mc k f n nm ms (P4 ks)
def P4:List Ex→List (Nat×List Nat)
 |[]=>[]
 |e::es=>(DD e,EZ e)::P4 es
end
theorem N7 (e:Ex):EZ e=Mc e.kind e.fn e.num e.name e.ms (P4 e.kids):=by cases e;rw[EZ];rfl
def SE (e:Ex):Prop:=(e.kind=0∧e.den=1∧∃n:Nat,n<10∧e.num=n)∨(e.kind=1∧e.fn=0∧e.offset=0∧Rc e.ms∧e.name.size≤1000)∨(e.kind=3∧(∃f:Nat,f<4∧e.fn=f)∧∃a b,e.kids=[a,b])
theorem SA {e a b:Ex} {f:Nat} (hk:e.kind=3) (hf:e.fn=f) (h:e.kids=[a,b]):EZ e=GW (decide (DD a<Jt f)) (EZ a)++bl (Ml f)++GW (decide (DD b≤Jt f)) (EZ b):=by
 rw[N7,h,hk,hf];unfold P4 P4 P4 Mc;rw[VM (by decide),VM (by decide)];simp
theorem Pd (e:Ex) (cs:List Value) (base g N:Nat) (hob:1<base∧4<base) (HWr:∀(w:World) (bs:List Nat),EB w→BU w base e cs→WS w base g bs→bs.length+(EZ e).length+N<900000000→Calls Tryz.prog 101 #[.pointer (some ⟨g,0,none⟩),.agg cs.toArray] w (Es base g (bs++EZ e) w))
  (w:World) (bs:List Nat) (b:Bool) (hot:EB w) (hr:BU w base e cs) (h:WS w base g bs) (hl:bs.length+(EZ e).length+N+2<900000000):
  Calls Tryz.prog 131 #[.pointer (some ⟨g,0,none⟩),.agg cs.toArray,.bool b] w (Es base g (bs++GW b (EZ e)) w):=by
 have hbs:=h.2.1;have hlen:=BC hr;have hb:=VW w 29 cs.toArray;have hg:=(VU w).alloc (.cells cs.toArray 29);have HR:=V3 (fun w' (k:AA (fun i=>base≤i) w w')=>BU.keep (B':=base) hbs (V6 _) k (fun i hi e=>by omega) e cs hr);have HW:=V3 (h.grew hg);have HL:=V3 (V5 hl hlen);have HC:=V3 HWr;have HO:=V3 (fun w' (k:AA (fun i=>base≤i) w w')=>hot.keep k (by omega));clear h hr hl hlen HWr hot;rcases b with _|_
 ·go_enter Tryz.func131,Tryz.ntmps131;go_upto_region 1 with fail;change Code.wp _ _ _ _ (w.alloc (.cells cs.toArray 29));generalize w.alloc (.cells cs.toArray 29)=w1 at*;have HG:=V3 hg;clear hg;go_wp2_with(first|((with_reducible refine AF 29 (.tmp 4) rfl ?_);refine BZ 29 Tryz.underlying29 rfl (.tmp 4) (w.heap.size) cs 29 (by rw[HL.out.2];exact AE) rfl rfl rfl hb ?_)|(go_at_call 101;(with_reducible refine(HC.out w1 bs (HO.out _ (Vb HG.out)) (HR.out _ (Vb HG.out)) HW.out (by have:=HL.out.1;omega)).mono ?_);rintro e3 w4 ⟨⟨u,rfl⟩,hws,hk,hkb⟩;have HF:=V3 (V5 hws (V5 hk hkb));clear hws hk hkb));go_end0;exact⟨⟨_,rfl⟩,HF.out.1,VV (Vb HG.out) HF.out.2.1 fun i _ h=>h,(KB.grew HG.out).trans HF.out.2.2⟩
 go_enter Tryz.func131,Tryz.ntmps131;go_upto_region 1 with fail;change Code.wp _ _ _ _ (w.alloc (.cells cs.toArray 29));generalize w.alloc (.cells cs.toArray 29)=w1 at*;have HG:=V3 hg;clear hg;have HB1:=V3 (show ∀w',WS w' base g bs→Calls Tryz.prog 148 #[.pointer (some ⟨g,0,none⟩),.int .u8 40] w' (Es base g (bs++[40]) w')from fun w' h=>EF w' base g bs 40 h (by have:=HL.out.1;omega));have HB2:=V3 (show ∀w',WS w' base g (bs++[40]++EZ e)→Calls Tryz.prog 148 #[.pointer (some ⟨g,0,none⟩),.int .u8 41] w' (Es base g (bs++[40]++EZ e++[41]) w')from fun w' h=>EF w' base g _ 41 h (by have:=HL.out.1;simp;omega));go_upto_region 3 with(go_at_call 148;(with_reducible refine(HB1.out _ HW.out).mono ?_);rintro e3 w2 ⟨⟨u,rfl⟩,hws,hk,hkb⟩;have HF:=V3 (V5 hws (V5 hk hkb));clear hws hk hkb);have hb2:=HF.out.2.2 _ _ _ hb (by decide) (by decide);go_upto_region 4 with(first|((with_reducible refine AF 29 (.tmp 4) rfl ?_);refine BZ 29 Tryz.underlying29 rfl (.tmp 4) (w.heap.size) cs 29 (by rw[HL.out.2];exact AE) rfl rfl rfl hb2 ?_)|(go_at_call 101;(with_reducible refine(HC.out w2 (bs++[40]) (HO.out _ (VV (Vb HG.out) HF.out.2.1 fun i _ h=>h)) (HR.out _ (VV (Vb HG.out) HF.out.2.1 fun i _ h=>h)) HF.out.1 (by have:=HL.out.1;simp;omega)).mono ?_);rintro e3 w4 ⟨⟨u2,rfl⟩,hws,hk,hkb⟩;have HF2:=V3 (V5 hws (V5 hk hkb));clear hws hk hkb));go_wp2_with(go_at_call 148;(with_reducible refine(HB2.out _ HF2.out.1).mono ?_);rintro e3 w5 ⟨⟨u3,rfl⟩,hws,hk,hkb⟩;have HF3:=V3 (V5 hws (V5 hk hkb));clear hws hk hkb);go_end0;refine⟨⟨_,rfl⟩,?_,VV (VV (VV (Vb HG.out) HF.out.2.1 fun i _ h=>h) HF2.out.2.1 fun i _ h=>h) HF3.out.2.1 fun i _ h=>h,(((KB.grew HG.out).trans HF.out.2.2).trans HF2.out.2.2).trans HF3.out.2.2⟩;have h:=HF3.out.1;rw[show bs++GW true (EZ e)=bs++[40]++EZ e++[41] by unfold GW;simp];exact h
theorem MG {f:Nat} (h:f<4):(Ml f).size=1:=by
 rcases(show f=0∨f=1∨f=2∨f=3 by omega)with rfl|rfl|rfl|rfl<;>rfl
theorem T2 {f:Nat} (h:f<4) {e:Ex} (hk:e.kind=3) (hf:e.fn=f):DD e=Jt f:=by
 unfold DD Jt;rw[VN hk,hf]
theorem I9:∀(k:Nat) (e:Ex),AH e≤k→k≤1000000→BW SE e→∀(base g:Nat) (cs:List Value) (w:World) (bs:List Nat),EB w→1<base∧4<base→BU w base e cs→WS w base g bs→bs.length+(EZ e).length+4*AH e<900000000→
  Calls Tryz.prog 101 #[.pointer (some ⟨g,0,none⟩),.agg cs.toArray] w (Es base g (bs++EZ e) w)
 |0,e,h,_,_,_,_,_,_,_,_,_,_,_,_=>absurd (Aj e) (by omega)
 |k+1,e,hk,hk2,hpr,base,g,cs,w,bs,hot,hob,hr,h,hl=>by
  have hbs:=h.2.1;have hcl:=BC hr;obtain⟨vm,vb,vk,rfl, -, -,hT⟩:=hr.open_;have hb:=VW w 29 (AC e vm vb vk).toArray;have hg:=(VU w).alloc (.cells (AC e vm vb vk).toArray 29);have HW:=V3 (h.grew hg);have HR:=V3 hr;have HBS:=V3 hbs;have HL:=V3 hl;have HT:=V3 hT;rcases hpr.top with⟨h0,hd,n,hn,hnum⟩|⟨h1,hf,ho,hms,hns⟩|⟨h3,⟨f,hf4,hf⟩,ea,eb,hks⟩
  ·have hp:EZ e=bl (SY n):=by rw[N7];unfold Mc;rw[VN h0,hnum];rfl
   rw[hp]at HL ⊢;have HN:=V3 (fun w' (h:WS w' base g bs)=>OP w' base g bs n hn h (by have:=HL.out;omega));clear hp h hr hl hk hot;go_enter Tryz.func101,Tryz.ntmps101;go_upto_region 1 with fail;change Code.wp _ _ _ _ (w.alloc (.cells (AC e vm vb vk).toArray 29));generalize w.alloc (.cells (AC e vm vb vk).toArray 29)=w1 at*;have c0:w1.cell? ⟨w.heap.size,0,none⟩=some (.int .i64 0):=by rw[←h0];exact hb.cell 0
   have hrf:w1.rangeAt w.heap.size 5 (AI (n:Nat) 1):=by
    have h5:=hb.rangeN 5 (AI e.num e.den) rfl;rwa[hnum,hd]at h5
   have HG:=V3 hg;clear hg hb h0 hd hnum;go_wp2_with(first|((with_reducible refine AF 24 (.tmp 10) rfl ?_);refine wpList_load_mid rfl 24 (.tmp 10) rfl w.heap.size 5 rfl (AI (n:Nat) 1) _ hrf Tryz.underlying24 rfl Ao ?_)|(go_at_call 127;(with_reducible refine(HN.out w1 HW.out).mono ?_);rintro e3 w4 ⟨⟨u,rfl⟩,hws,hk,hkb⟩;have HF:=V3 (V5 hws (V5 hk hkb));clear hws hk hkb));go_end0;exact⟨⟨_,rfl⟩,HF.out.1,VV (Vb HG.out) HF.out.2.1 fun i _ h=>h,(KB.grew HG.out).trans HF.out.2.2⟩
  ·have hp:EZ e=bl e.name++Mi e.ms:=by rw[N7];unfold Mc;rw[VM (by rw[h1];decide),VN h1]
   rw[hp]at HL ⊢;have HN:=V3 (fun w' (hr:BU w' base e (AC e vm vb vk)) (h:WS w' base g bs) (hm:PK w')=>Ou e (AC e vm vb vk) w' base g bs hr h hm hob.2 (by have:=HL.out;omega) (by omega) hms hf ho);have hr1:=BU.keep (B':=base) hbs (V6 _) hg (fun _ _ h=>h) e _ hr;have HR1:=V3 hr1;have HM1:=V3 (hot.2.2.keep hg (fun h=>h));clear hp h hr hl hk hot hr1;go_enter Tryz.func101,Tryz.ntmps101;go_upto_region 1 with fail;change Code.wp _ _ _ _ (w.alloc (.cells (AC e vm vb vk).toArray 29));generalize w.alloc (.cells (AC e vm vb vk).toArray 29)=w1 at*;have c0:w1.cell? ⟨w.heap.size,0,none⟩=some (.int .i64 1):=by rw[←h1];exact hb.cell 0
   have HG:=V3 hg;clear hg h1 hf ho hms;go_wp2_with(first|((with_reducible refine AF 29 (.tmp 3) rfl ?_);refine BZ 29 Tryz.underlying29 rfl (.tmp 3) (w.heap.size) (AC e vm vb vk) 29 AE rfl rfl rfl hb ?_)|(go_at_call 128;(with_reducible refine(HN.out w1 HR1.out HW.out HM1.out).mono ?_);rintro e3 w4 ⟨⟨u,rfl⟩,hws,hk,hkb⟩;have HF:=V3 (V5 hws (V5 hk hkb));clear hws hk hkb));go_end0;exact⟨⟨_,rfl⟩,HF.out.1,VV (Vb HG.out) HF.out.2.1 fun i _ h=>h,(KB.grew HG.out).trans HF.out.2.2⟩
  have hp:=SA h3 hf hks;have hne:=Az e;have hna:=AT (show ea∈e.kids by rw[hks];simp);have hnb:=AT (show eb∈e.kids by rw[hks];simp);rw[hp]at HL ⊢;have hos:=MG hf4;obtain⟨A,n,c,rfl,hn2, -⟩:=hT.slice;obtain rfl:n=2:=by rw[hn2,hks];rfl
  have hTT:=hT;rw[hks]at hTT;obtain⟨b,o,ca,rfl,hbb,hra,hea⟩:=hTT.at_ (j:=0) (e:=ea) rfl;obtain⟨b',o',cb,hbo, -,hrb,heb⟩:=hTT.at_ (j:=1) (e:=eb) rfl;simp only[VQ,Addr.mk.injEq,and_true]at hbo;obtain⟨rfl,rfl⟩:=hbo;rw[Nat.zero_mul,Nat.add_zero]at hra;rw[Nat.one_mul]at hrb;have HRd:=V3 (show ∀w',AA (fun i=>base≤i) w w'→BU w' base ea ca∧BU w' base eb cb∧w'.rangeAt b o ca∧w'.rangeAt b (o+11) cb∧EB w' from fun w' k=>⟨BU.keep hbs (V6 _) k (fun i hi e=>by omega) ea ca hea,BU.keep hbs (V6 _) k (fun i hi e=>by omega) eb cb heb,AU hra (by omega) k (by omega),AU hrb (by omega) k (by omega),hot.keep k (by omega)⟩);have HLN:=V3 (V5 (BC hea) (BC heb));have HPe:=V3 (show DD e=Jt f from T2 hf4 h3 hf);have HWa:=V3 (fun w' bs' (hr:BU w' base ea ca) (ho:EB w') (h:WS w' base g bs') (hl:bs'.length+(EZ ea).length+4*AH ea<900000000)=>I9 k ea (by omega) (by omega) (hpr.kid (by rw[hks];simp)) base g ca w' bs' ho hob hr h hl);have HWb:=V3 (fun w' bs' (hr:BU w' base eb cb) (ho:EB w') (h:WS w' base g bs') (hl:bs'.length+(EZ eb).length+4*AH eb<900000000)=>I9 k eb (by omega) (by omega) (hpr.kid (by rw[hks];simp)) base g cb w' bs' ho hob hr h hl);have HOa:=V3 (fun w' bs' x ho (hr:BU w' base ea ca) (h:WS w' base g bs') hl=>Pd ea ca base g (4*AH ea) hob (fun w bs ho hr h hl=>HWa.out w bs hr ho h hl) w' bs' x ho hr h hl);have HOb:=V3 (fun w' bs' x ho (hr:BU w' base eb cb) (h:WS w' base g bs') hl=>Pd eb cb base g (4*AH eb) hob (fun w bs ho hr h hl=>HWb.out w bs hr ho h hl) w' bs' x ho hr h hl);have HBB:=V3 (show b<base from hbb);obtain⟨x1,hx1⟩:∃x,decide (DD ea<Jt f)=x:=⟨_,rfl⟩;obtain⟨x2,hx2⟩:∃x,decide (DD eb≤Jt f)=x:=⟨_,rfl⟩;obtain⟨pa,hpa⟩:∃x,DD ea=x:=⟨_,rfl⟩;obtain⟨pb,hpb⟩:∃x,DD eb=x:=⟨_,rfl⟩;obtain⟨lv,hlv⟩:∃x,Jt f=x:=⟨_,rfl⟩;rw[hx1,hx2]at HL ⊢;rw[hpa,hlv]at hx1;rw[hpb,hlv]at hx2;rw[hlv]at HPe;have HPC:=V3 (fun w' cs (hr:BU w' w'.heap.size e cs)=>Jp e cs w' hr);have HPA:=V3 (fun w' (hr:BU w' w'.heap.size ea ca)=>Jp ea ca w' hr);have HPB:=V3 (fun w' (hr:BU w' w'.heap.size eb cb)=>Jp eb cb w' hr);rw[HPe.out]at HPC;rw[hpa]at HPA;rw[hpb]at HPB;have HLE:=V3 (show(GW x1 (EZ ea)).length≤(EZ ea).length+2∧(GW x2 (EZ eb)).length≤(EZ eb).length+2∧(EZ ea).length≤(GW x1 (EZ ea)).length∧(EZ eb).length≤(GW x2 (EZ eb)).length∧(bl (Ml f)).length=1∧AH ea+AH eb+1≤AH e from by
   refine⟨?_,?_,?_,?_,by rw[CD,hos],by rw[hne,hks];unfold Ar Ar Ar;omega⟩<;>(unfold GW;split<;>simp<;>omega))
  have hr1:=BU.keep (B':=(w.alloc (.cells (AC e vm vb (.slice (some ⟨b,o,none⟩) 2 c)).toArray 29)).heap.size) hbs (VD hbs hg.size) hg (fun _ _ h=>h) e _ hr;have HR1:=V3 hr1;have HF:=V3 (V5 hf hf4);have HX:=V3 (V5 hx1 hx2);clear HWa HWb;clear hp h hr hl hk hk2 hot hr1 hTT hT hra hrb hea heb hne hna hnb hks hpr hn2 hx1 hx2 hpa hpb hlv HR HT hos hcl HPe hbb;go_enter Tryz.func101,Tryz.ntmps101;go_upto_region 1 with fail;change Code.wp _ _ _ _ (w.alloc (.cells (AC e vm vb (.slice (some ⟨b,o,none⟩) 2 c)).toArray 29));generalize w.alloc (.cells (AC e vm vb (.slice (some ⟨b,o,none⟩) 2 c)).toArray 29)=w1 at*;have c0:w1.cell? ⟨w.heap.size,0,none⟩=some (.int .i64 3):=by rw[←h3];exact hb.cell 0
  have HG:=V3 hg;have HB:=V3 hb;clear hg h3 hf;go_upto_region 10 with(first|((with_reducible refine AF 29 (.tmp 3) rfl ?_);refine BZ 29 Tryz.underlying29 rfl (.tmp 3) (w.heap.size) (AC e vm vb (.slice (some ⟨b,o,none⟩) 2 c)) 29 AE rfl rfl rfl hb ?_)|(go_at_call 130;(with_reducible refine(HPC.out w1 _ HR1.out).mono ?_);rintro e3 w2 ⟨rfl,k2⟩;have HG2:=V3 (HG.out.trans k2);have HW2:=V3 (HW.out.grew k2);have HB2:=V3 (HB.out.grew k2);clear k2));clear hb c0;have HRA:=V3 (show w2.drew.rangeAt b o ca∧w2.drew.rangeAt b (o+11) cb from⟨(HRd.out _ (VX (Vb HG2.out))).2.2.1,(HRd.out _ (VX (Vb HG2.out))).2.2.2.1⟩);have HP0:=V3 (fun w' (hg:A4 w2.drew w')=>HPA.out w' (BU.keep (B':=w'.heap.size) (VD HBS.out HG2.out.size) (by have h1:=hg.size;have h2:=HG2.out.size;have h3:=HBS.out;have h4:w2.drew.heap.size=w2.heap.size:=rfl;omega) ((VX (VU w2)).trans hg) (fun _ _ h=>h) ea ca (HRd.out _ (Vb HG2.out)).1));refine Hk (by kernel_rfl) 12 [.pointer (some ⟨g,0,none⟩),.pointer (some ⟨w.heap.size,10,none⟩),.slice (some ⟨b,o,none⟩) 2 c,.pointer (some ⟨b,o,none⟩),.agg ca.toArray,.pointer (some ⟨w.heap.size,10,none⟩),.slice (some ⟨b,o,none⟩) 2 c,.pointer (some ⟨b,o,none⟩),.agg ca.toArray,.int .i64 (pa:Nat),.int .i64 (lv:Nat),.bool x1] _ (by kernel_rfl) (by kernel_rfl) (by kernel_rfl) rfl ?sH _ rfl rfl (by kernel_rfl) (by kernel_rfl) ?sT
  case sH=>
   simp only[List.toList_toArray,List.take_succ_cons,List.take_zero,Af,Act.put,List.setIfInBounds_toArray,List.set_cons_zero,List.set_cons_succ];refine AD (by kernel_rfl) (fun w' hg=>?_) ?_
   ·go_simp;exact VU _
   refine AD (by kernel_rfl) (fun w' hg=>?_) ?_
   ·go_simp;exact VU _
   refine AD (by kernel_rfl) (fun w' hg=>?_) ?_
   ·have hc:w'.cell? ⟨w.heap.size,10,none⟩=some (.slice (some ⟨b,o,none⟩) 2 c):=(HB2.out.drew.grew hg).cell 10;go_simp;exact VU _
   refine AD (by kernel_rfl) (fun w' hg=>?_) ?_
   ·go_simp;exact VU _
   refine AD (by kernel_rfl) (fun w' hg=>?_) ?_
   ·refine wp_load_mid 29 (.tmp 30) rfl b (o) rfl ca _ (AU HRA.out.1 (VA HBB.out (VD HBS.out HG2.out.size)) hg (fun h=>h)) Tryz.underlying29 rfl (by rw[HLN.out.1];exact AE) ?_;exact⟨rfl,VU _⟩
   refine AD (by kernel_rfl) (fun w' hg=>?_) ?_
   ·go_simp;exact VU _
   refine AD (by kernel_rfl) (fun w' hg=>?_) ?_
   ·have hc:w'.cell? ⟨w.heap.size,10,none⟩=some (.slice (some ⟨b,o,none⟩) 2 c):=(HB2.out.drew.grew hg).cell 10;go_simp;exact VU _
   refine AD (by kernel_rfl) (fun w' hg=>?_) ?_
   ·go_simp;exact VU _
   refine AD (by kernel_rfl) (fun w' hg=>?_) ?_
   ·refine wp_load_mid 29 (.tmp 34) rfl b (o) rfl ca _ (AU HRA.out.1 (VA HBB.out (VD HBS.out HG2.out.size)) hg (fun h=>h)) Tryz.underlying29 rfl (by rw[HLN.out.1];exact AE) ?_;exact⟨rfl,VU _⟩
   refine AD (by kernel_rfl) (fun w' hg=>?_) ?_
   ·go_simp;(with_reducible refine(HP0.out _ hg).mono ?_);rintro e wq ⟨rfl,kq⟩;exact⟨rfl,kq⟩
   refine AD (by kernel_rfl) (fun w' hg=>?_) ?_
   ·go_simp;exact VU _
   refine AD (by kernel_rfl) (fun w' hg=>?_) ?_
   ·go_simp;exact⟨HX.out.1,VU _⟩
   exact AK
  case sT=>
   intro wn hgn;simp only[List.toList_toArray,List.take_succ_cons,List.take_zero,Af,Act.put,List.setIfInBounds_toArray,List.set_cons_zero,List.set_cons_succ];go_simp;(with_reducible refine(HOa.out wn bs x1 (HRd.out _ (Vb (HG2.out.trans hgn))).2.2.2.2 (HRd.out _ (Vb (HG2.out.trans hgn))).1 (HW2.out.grew hgn) (by have:=HL.out;have:=HLE.out;simp only[VR]at*;omega)).mono ?_);rintro e3 w3 ⟨⟨u,rfl⟩,hws,hk,hkb⟩;have HF3:=V3 (V5 hws (V5 (show AA (fun i=>base≤i) w w3 from VV (Vb (HG2.out.trans hgn)) hk fun i _ h=>h) (show KB w2 w3 from(KB.grew hgn).trans hkb)));clear hws hk hkb HOa HP0 HRA;have hb3:=HF3.out.2.2 _ _ _ HB2.out (by decide) (by decide);have c1:w3.cell? ⟨w.heap.size,1,none⟩=some (.int .i64 (f:Nat)):=by rw[←HF.out.1];exact hb3.cell 1
   have ot3:=(HRd.out _ HF3.out.2.1).2.2.2.2;have hf4:=HF.out.2;have co:w3.cell? ⟨1,f,none⟩=some (.string (Ml f)):=ot3.2.1 f (Ml f) (by rcases(show f=0∨f=1∨f=2∨f=3 by omega)with rfl|rfl|rfl|rfl<;>rfl);have hi1:(0:Int)≤(f:Int)∧(f:Int)<4:=by omega
   obtain⟨hi1,hi2⟩:=hi1;have HWo:=V3 (show ∀w',WS w' base g (bs++GW x1 (EZ ea))→Calls Tryz.prog 132 #[.pointer (some ⟨g,0,none⟩),.string (Ml f)] w' (Es base g (bs++GW x1 (EZ ea)++bl (Ml f)) w')from fun w' h=>Cf w' base g _ (Ml f) h (by have:=HL.out;simp only[VR]at*;omega) (by rw[MG hf4];omega));go_upto_region 12 with(go_at_call 132;(with_reducible refine(HWo.out _ HF3.out.1).mono ?_);rintro e3 w4 ⟨⟨u4,rfl⟩,hws,hk,hkb⟩;have HF4:=V3 (V5 hws (V5 hk hkb));clear hws hk hkb);have HB4:=V3 (HF4.out.2.2 _ _ _ hb3 (by decide) (by decide));have HK4:=V3 (show AA (fun i=>base≤i) w w4 from VV HF3.out.2.1 HF4.out.2.1 fun i _ h=>h);clear hb3 c1 ot3 co hi1 hi2 HWo;have HRA:=V3 (show w4.drew.rangeAt b o ca∧w4.drew.rangeAt b (o+11) cb from⟨(HRd.out _ (VX HK4.out)).2.2.1,(HRd.out _ (VX HK4.out)).2.2.2.1⟩);have HP1:=V3 (fun w' (hg:A4 w4.drew w')=>HPB.out w' (BU.keep (B':=w'.heap.size) (VD HBS.out HK4.out.size) (by have h1:=hg.size;have h2:=HK4.out.size;have h3:=HBS.out;have h4:w4.drew.heap.size=w4.heap.size:=rfl;omega) ((VX (VU w4)).trans hg) (fun _ _ h=>h) eb cb (HRd.out _ HK4.out).2.1));refine Hk (by kernel_rfl) 12 [.pointer (some ⟨g,0,none⟩),.pointer (some ⟨w.heap.size,10,none⟩),.slice (some ⟨b,o,none⟩) 2 c,.pointer (some ⟨b,o+11,none⟩),.agg cb.toArray,.pointer (some ⟨w.heap.size,10,none⟩),.slice (some ⟨b,o,none⟩) 2 c,.pointer (some ⟨b,o+11,none⟩),.agg cb.toArray,.int .i64 (pb:Nat),.int .i64 (lv:Nat),.bool x2] _ (by kernel_rfl) (by kernel_rfl) (by kernel_rfl) rfl ?sH2 _ rfl rfl (by kernel_rfl) (by kernel_rfl) ?sT2
   case sH2=>
    simp only[List.toList_toArray,List.take_succ_cons,List.take_zero,Af,Act.put,List.setIfInBounds_toArray,List.set_cons_zero,List.set_cons_succ];refine AD (by kernel_rfl) (fun w' hg=>?_) ?_
    ·go_simp;exact VU _
    refine AD (by kernel_rfl) (fun w' hg=>?_) ?_
    ·go_simp;exact VU _
    refine AD (by kernel_rfl) (fun w' hg=>?_) ?_
    ·have hc:w'.cell? ⟨w.heap.size,10,none⟩=some (.slice (some ⟨b,o,none⟩) 2 c):=(HB4.out.drew.grew hg).cell 10;go_simp;exact VU _
    refine AD (by kernel_rfl) (fun w' hg=>?_) ?_
    ·go_simp;exact VU _
    refine AD (by kernel_rfl) (fun w' hg=>?_) ?_
    ·refine wp_load_mid 29 (.tmp 49) rfl b (o+11) rfl cb _ (AU HRA.out.2 (VA HBB.out (VD HBS.out HK4.out.size)) hg (fun h=>h)) Tryz.underlying29 rfl (by rw[HLN.out.2];exact AE) ?_;exact⟨rfl,VU _⟩
    refine AD (by kernel_rfl) (fun w' hg=>?_) ?_
    ·go_simp;exact VU _
    refine AD (by kernel_rfl) (fun w' hg=>?_) ?_
    ·have hc:w'.cell? ⟨w.heap.size,10,none⟩=some (.slice (some ⟨b,o,none⟩) 2 c):=(HB4.out.drew.grew hg).cell 10;go_simp;exact VU _
    refine AD (by kernel_rfl) (fun w' hg=>?_) ?_
    ·go_simp;exact VU _
    refine AD (by kernel_rfl) (fun w' hg=>?_) ?_
    ·refine wp_load_mid 29 (.tmp 53) rfl b (o+11) rfl cb _ (AU HRA.out.2 (VA HBB.out (VD HBS.out HK4.out.size)) hg (fun h=>h)) Tryz.underlying29 rfl (by rw[HLN.out.2];exact AE) ?_;exact⟨rfl,VU _⟩
    refine AD (by kernel_rfl) (fun w' hg=>?_) ?_
    ·go_simp;(with_reducible refine(HP1.out _ hg).mono ?_);rintro e wq ⟨rfl,kq⟩;exact⟨rfl,kq⟩
    refine AD (by kernel_rfl) (fun w' hg=>?_) ?_
    ·go_simp;exact VU _
    refine AD (by kernel_rfl) (fun w' hg=>?_) ?_
    ·go_simp;exact⟨HX.out.2,VU _⟩
    exact AK
   case sT2=>
    intro UY hgn2;simp only[List.toList_toArray,List.take_succ_cons,List.take_zero,Af,Act.put,List.setIfInBounds_toArray,List.set_cons_zero,List.set_cons_succ];go_simp;(with_reducible refine(HOb.out UY (bs++GW x1 (EZ ea)++bl (Ml f)) x2 (HRd.out _ (AA.grew HK4.out hgn2)).2.2.2.2 (HRd.out _ (AA.grew HK4.out hgn2)).2.1 (HF4.out.1.grew hgn2) (by have:=HL.out;have:=HLE.out;simp only[VR]at*;omega)).mono ?_);rintro e3 w5 ⟨⟨u5,rfl⟩,hws,hk,hkb⟩;have HF5:=V3 (V5 hws (V5 (show AA (fun i=>base≤i) w w5 from VV (AA.grew HK4.out hgn2) hk fun i _ h=>h) hkb));clear hws hk hkb;go_wp2_with fail;go_end0;refine⟨⟨_,rfl⟩,?_,HF5.out.2.1,?_⟩
    ·have h:=HF5.out.1;simpa only[List.append_assoc]using h
    exact(((KB.grew HG2.out).trans HF3.out.2.2).trans HF4.out.2.2).trans ((KB.grew hgn2).trans HF5.out.2.2)
theorem GM:∀(k:Nat) (e:Ex),AH e≤k→k≤1000000→BW SE e→∀(w:World) (cs:List Value),BU w w.heap.size e cs→
  Calls Tryz.prog 100 #[.agg cs.toArray] w fun e' w'=>e'= .returned (.bool true)∧A4 w w'
 |0,e,h,_,_,_,_,_=>absurd (Aj e) (by omega)
 |k+1,e,hk,hk2,hpr,w,cs,hr=>by
  obtain⟨vm,vb,vk,rfl, -, -,hT⟩:=hr.open_;have hne:=Az e;have hkl:=CF e.kids;obtain⟨A,n,c,rfl,hn, -⟩:=hT.slice;have HIH:=V3 (fun(e':Ex) (w':World) (cs:List Value) (h1:e'∈e.kids) (h2:BU w' w'.heap.size e' cs)=>GM k e' (by have:=AT h1;omega) (by omega) (hpr.kid h1) w' cs h2);have HT:=V3 hT;have HN:=V3 hn;have hbx:=VW w 29 (AC e vm vb (.slice A n c)).toArray;have hG:=(VU w).alloc (.cells (AC e vm vb (.slice A n c)).toArray 29);have hnb:n≤1000000:=by omega
  have htop:=hpr.top;clear hr hT hn hne hkl hk hk2;go_enter Tryz.func100,Tryz.ntmps100;go_upto_region 1 with fail;change Code.wp _ _ _ _ (w.alloc (.cells (AC e vm vb (.slice A n c)).toArray 29));generalize w.alloc (.cells (AC e vm vb (.slice A n c)).toArray 29)=w1 at*;have HBx:=V3 hbx;have HG:=V3 hG;have c0:w1.cell? ⟨w.heap.size,0,none⟩=some (.int .i64 e.kind):=hbx.cell 0;by_cases h0:e.kind=0
  ·have t0:(e.kind==0)=true:=by rw[VC];exact h0
   obtain⟨m,hm,hnum,hd⟩:∃m:Nat,m<10∧e.num=m∧e.den=1:=by
    rcases htop with⟨_,hd,m,hm,hnum⟩|⟨h1, -⟩|⟨h1, -⟩
    ·exact⟨m,hm,hnum,hd⟩
    ·rw[h0]at h1;cases h1
    rw[h0]at h1;cases h1
   have c5:w1.cell? ⟨w.heap.size,5,none⟩=some (.int .i64 (m:Nat)):=by rw[←hnum];exact hbx.cell 5
   have c6:w1.cell? ⟨w.heap.size,6,none⟩=some (.int .i64 1):=by rw[←hd];exact hbx.cell 6
   have t1:decide ((m:Int)≥ -1073741824)=true:=by rw[decide_eq_true_iff];omega
   have t2:decide ((m:Int)≤1073741824)=true:=by rw[decide_eq_true_iff];omega
   clear hbx hG htop h0 hnum hd;go_wp2_with fail;go_ret;exact⟨rfl,HG.out⟩
  have t0:(e.kind==0)=false:=by rw[V4];exact h0
  have c10:w1.cell? ⟨w.heap.size,10,none⟩=some (.slice A n c):=hbx.cell 10;clear hbx hG htop h0;go_wp2_with fail;go_loopw [4,27] (fun _ i wr=>∃(j:Nat),j≤n∧i= .int .i64 (j:Nat)∧A4 w1 wr) (fun _ i _=>n-(intOf i).toNat)
  case atStart=>exact⟨0,by omega,rfl,VU _⟩
  case round=>
   obtain⟨j,hj,rfl,hGr⟩:=hrel;by_cases hlt:j<n
   ·have hjl:j<e.kids.length:=by rw[←HN.out];exact hlt
    obtain⟨e',he'⟩:∃e',e.kids[j]? =some e':=⟨_,VB hjl⟩;have hmem:e'∈e.kids:=VJ he';obtain⟨b,o,cs,rfl,hb,hrg,hre⟩:=(HT.out.grew (HG.out.trans hGr)).at_ he';obtain⟨vm',vb',vk',hcs,hm',hy',hT'⟩:=hre.open_;subst hcs;obtain⟨A1,n1,c1,rfl⟩:∃A n c,vm'= .slice A n c:=by obtain⟨A,c,h, -⟩:=hm';exact⟨A,_,c,h⟩
    obtain⟨A2,n2,c2,rfl⟩:∃A n c,vb'= .slice A n c:=by obtain⟨A,c,h, -⟩:=hy';exact⟨A,_,c,h⟩
    obtain⟨A3,n3,c3,rfl, -⟩:=hT'.slice;have HI:=V3 (fun w' (g:A4 wr w')=>HIH.out e' w' _ hmem (hre.grew g));have HRg:=V3 hrg;have HGr:=V3 hGr;clear hjl he' hmem hrg hre hGr hm' hy' hT' c0 c10;go_wp2_with(first|((with_reducible refine AF 29 (.tmp 29) rfl ?_);refine wpList_load_mid rfl 29 (.tmp 29) rfl b (o+j*11) rfl (AC e' (.slice A1 n1 c1) (.slice A2 n2 c2) (.slice A3 n3 c3)) _ HRg.out Tryz.underlying29 rfl AE ?_)|((with_reducible refine AG 29 (.tmp 4) (.tmp 30) rfl ?_);refine BL 29 (.tmp 4) (.tmp 30) (wr.heap.size) (AC e' (.slice A1 n1 c1) (.slice A2 n2 c2) (.slice A3 n3 c3)) (AJ 0 0) 29 AE rfl (B1 _ _ _ _ _ _ _ _ _ _) rfl rfl rfl rfl (VW wr 29 _) ?_;intro w5 hb5 k5 d5;have g5:A4 wr w5:=VV ((VU wr).alloc _) k5 (fun i hi e=>by omega);clear k5 d5)|((with_reducible refine AF 29 (.tmp 4) rfl ?_);refine BZ 29 Tryz.underlying29 rfl (.tmp 4) (wr.heap.size) (AC e' (.slice A1 n1 c1) (.slice A2 n2 c2) (.slice A3 n3 c3)) 29 AE rfl rfl rfl hb5 ?_)|(go_at_call 100;(with_reducible refine(HI.out _ g5).mono ?_);rintro e2 w6 ⟨rfl,k6⟩;have HG6:=V3 ((HGr.out.trans g5).trans k6);clear k6 g5 hb5));go_roundw
    case rel=>exact⟨j+1,by omega,by go_num,HG6.out⟩
    case measure=>simp[intOf];omega
   obtain rfl:j=n:=by omega
   go_wp2_with fail;go_ret;exact⟨rfl,HG.out.trans hGr⟩
def K8 (e:Ex) (w:World) (e':Ending) (w':World):Prop:=∃s,e'= .returned (.tuple #[.string s,.int .i64 0])∧bl s=EZ e∧A4 w w'
theorem OV (w:World) (base g:Nat) (bs:List Nat) (h:WS w base g bs):Calls Tryz.prog 102 #[.pointer (some ⟨g,0,none⟩)] w fun e w'=>e= .returned (.int .i64 (bs.length:Nat))∧w'=w:=by
 obtain⟨-, -,p,v,hb⟩:=h;obtain⟨c0,c1⟩:=hb.cells;rcases hb.row.form with⟨rfl,hx⟩|⟨g',cap,cur,rfl, -⟩
 ·have hz:bs.length=0:=by simpa using congrArg List.length hx
  rw[hz];clear hb hx hz;go_enter Tryz.func102,Tryz.ntmps102;go_wp2_with fail;go_ret;exact⟨rfl,rfl⟩
 rw[List.length_map]at c1;clear hb;go_enter Tryz.func102,Tryz.ntmps102;go_wp2_with fail;go_ret;exact⟨rfl,rfl⟩
theorem KN (e:Ex) (hn:AH e≤1000000) (hok:BW Bz e) (hpr:BW SE e) (hv:DP e=0) (hl:0<(EZ e).length∧(EZ e).length≤2000) (hby:Bytes (EZ e)) (w:World) (cs:List Value) (hwt:DI w) (hot:EB w) (hr:BU w w.heap.size e cs):
  Calls Tryz.prog 67 #[.agg cs.toArray] w (K8 e w):=by
 have hcl:=BC hr;have hb:=VW w 29 cs.toArray;have hg:=(VU w).alloc (.cells cs.toArray 29);have HR:=V3 (fun w' (g:A4 w w')=>hr.grew g);have HVd:=V3 (fun w' (g:A4 w w')=>FG e hn hok w' cs (hwt.grew g) (hr.grew g));rw[hv]at HVd;have HPb:=V3 (fun w' (g:A4 w w')=>GM (AH e) e (V6 _) hn hpr w' cs (hr.grew g));have HOT:=V3 (fun w' (g:A4 w w')=>hot.keep g (fun h=>h));have HL:=V3 (V5 hl (V5 hby hcl));have HNn:=V3 (V5 hn hpr);clear hr hok hpr hv hl hby hwt hot hn hcl;go_enter Tryz.func67,Tryz.ntmps67;go_upto_region 1 with fail;change Code.wp _ _ _ _ (w.alloc (.cells cs.toArray 29));generalize w.alloc (.cells cs.toArray 29)=w1 at*;have HG:=V3 hg;have HB:=V3 hb;clear hg;go_upto_region 2 with(first|((with_reducible refine AF 29 (.tmp 1) rfl ?_);refine BZ 29 Tryz.underlying29 rfl (.tmp 1) (w.heap.size) cs 29 (by rw[HL.out.2.2];exact AE) rfl rfl rfl hb ?_)|(go_at_call 12;(with_reducible refine(HVd.out _ HG.out).mono ?_);rintro e3 w2 ⟨rfl,k2⟩;have HG2:=V3 (HG.out.trans k2);have hb2:=HB.out.grew k2;clear k2));clear hb;go_upto_region 6 with(first|((with_reducible refine AF 29 (.tmp 1) rfl ?_);refine BZ 29 Tryz.underlying29 rfl (.tmp 1) (w.heap.size) cs 29 (by rw[HL.out.2.2];exact AE) rfl rfl rfl hb2 ?_)|(go_at_call 100;(with_reducible refine(HPb.out _ HG2.out).mono ?_);rintro e3 w3 ⟨rfl,k3⟩;have HG3:=V3 (HG2.out.trans k3);have hb3:=hb2.grew k3;clear k3));have HB3:=V3 hb3;clear hb2 hb3;go_upto_region 7 with fail;have hbs:=VW w3 156 #[.pointer none,.slice none 0 0];have hg4:=(VU w3).alloc (.cells #[.pointer none,.slice none 0 0] 156);have hws:WS (w3.alloc (.cells #[.pointer none,.slice none 0 0] 156)) w3.heap.size w3.heap.size []:=⟨V6 _,by simp,_,_,hbs,B9.nil _ _ _,.inl rfl⟩;generalize w3.alloc (.cells #[.pointer none,.slice none 0 0] 156)=w4 at*;have HWS:=V3 hws;have hr4:=BU.keep (B':=w3.heap.size) (V6 _) (V6 _) hg4 (fun _ _ h=>h) e cs (HR.out w3 HG3.out);have HWr:=V3 (I9 (AH e) e (V6 _) HNn.out.1 HNn.out.2 w3.heap.size w3.heap.size cs w4 [] (HOT.out _ (HG3.out.trans hg4)) ⟨by have:=(HOT.out _ HG3.out).1;omega,by have:=(HOT.out _ HG3.out).2.2.1;omega⟩ hr4 hws (by have:=HL.out.1;have:=HNn.out.1;simp;omega));have hb4:=HB3.out.grew hg4;have HG4:=V3 hg4;clear hbs hg4 hws hr4;go_upto_region 8 with(first|((with_reducible refine AF 29 (.tmp 1) rfl ?_);refine BZ 29 Tryz.underlying29 rfl (.tmp 1) (w.heap.size) cs 29 (by rw[HL.out.2.2];exact AE) rfl rfl rfl hb4 ?_)|(go_at_call 101;(with_reducible refine HWr.out.mono ?_);rintro e3 w5 ⟨⟨u,rfl⟩,hws5,hk5, -⟩;have HW5:=V3 hws5;have HK5:=V3 (show A4 w3 w5 from VV HG4.out hk5 fun i hi e=>by omega);clear hws5 hk5));have HLn:=V3 (OV w5 w3.heap.size w3.heap.size _ HW5.out);rw[List.nil_append]at HLn HW5;obtain⟨ln,hln⟩:∃ln,(EZ e).length=ln:=⟨_,rfl⟩;rw[hln]at HLn;have tl:decide ((ln:Int)>2000)=false:=by rw[decide_eq_false_iff_not];have:=HL.out.1;omega
 have HStr:=V3 (show Calls Tryz.prog 103 #[.pointer (some ⟨w3.heap.size,0,none⟩)] w5 (fun e1 w'=>∃s,e1= .returned (.string s)∧bl s=EZ e∧AA (fun i=>w3.heap.size≤i) w5 w')from by
  obtain⟨-, -,p,v,hsb⟩:=HW5.out;exact Kv w3.heap.size w3.heap.size p v (EZ e) w5 hsb HL.out.1.1 HL.out.2.1 (by have:=HL.out.1;omega))
 have HLX:=V3 hln;clear hln;go_wp2_with(first|(go_at_call 102;(with_reducible refine HLn.out.mono ?_);rintro e3 w9 ⟨rfl,hw9⟩;obtain rfl:=hw9.symm;clear hw9)|(go_at_call 103;(with_reducible refine HStr.out.mono ?_);rintro e3 w6 ⟨s,rfl,hs,hk6⟩;have HS6:=V3 (V5 hs hk6);clear hs hk6));refine bodyPost_ret (by simp[results,Tryz.func67];rfl) rfl ?_;exact⟨s,rfl,HS6.out.1,HG3.out.trans (VV HK5.out HS6.out.2 fun i hi e=>by omega)⟩
end Go.Proofs.YthpflelgbadkcaaGreatDoor
