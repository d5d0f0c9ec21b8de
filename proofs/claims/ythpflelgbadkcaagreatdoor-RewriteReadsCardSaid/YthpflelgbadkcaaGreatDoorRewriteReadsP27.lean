/- package rewrite: parts by a plain function, nothing's closure. -/
import Derived.Test.YthpflelgbadkcaaGreatDoorRewriteReadsP01
import Derived.Test.YthpflelgbadkcaaGreatDoorRewriteReadsP26
set_option maxRecDepth 100000
set_option maxHeartbeats 12800000
set_option linter.unusedVariables false
set_option linter.unusedSimpArgs false
namespace Go.Proofs.YthpflelgbadkcaaGreatDoor
open Go.RowKit Pl
def zE:Ex:= .mk 0 0 0 0 0 0 0 ⟨#[]⟩ [] [] []
def Gk (e:Ex) (f:Int):Bool:=decide (e.kind=3∧e.fn=f)
def pt1 (e:Ex) (f:Int):Ex:=if Gk e f then e.kids.getD 0 zE else zE
def pt2 (e:Ex) (f:Int):Ex:=if Gk e f then e.kids.getD 1 zE else zE
theorem OG (w:World) (Q:Nat→Prop):AW w Q zE (AH 0 0):=AW.mk_ (e:=zE) (C0.nil _ _ _) (C0.nil _ _ _) (DH.nil _ _)
theorem QX:CG zE:=⟨BA.2 ⟨.inl ⟨rfl,rfl⟩,fun k hk=>nomatch hk⟩,by unfold zE E8 EJ;exact⟨Nat.zero_le _,Nat.zero_le _,trivial⟩,by decide⟩
theorem CG.top2 {e:Ex} (h:CG e) (h3:e.kind=3):∃a b,e.kids=[a,b]:=GN h.1.top h3
theorem CG.pt1 {e:Ex} (h:CG e) (f:Int):CG (pt1 e f):=by
 unfold Go.Proofs.YthpflelgbadkcaaGreatDoor.pt1;split
 ·rename_i ho
  obtain⟨h3, -⟩:=SL ho;obtain⟨a,b,hk⟩:=h.top2 h3;rw[hk];exact h.kid (by rw[hk];exact List.mem_cons_self)
 exact QX
theorem CG.pt2 {e:Ex} (h:CG e) (f:Int):CG (pt2 e f):=by
 unfold Go.Proofs.YthpflelgbadkcaaGreatDoor.pt2;split
 ·rename_i ho
  obtain⟨h3, -⟩:=SL ho;obtain⟨a,b,hk⟩:=h.top2 h3;rw[hk];exact h.kid (by rw[hk];simp)
 exact QX
theorem JQ {w:World} {Q:Nat→Prop} {ea eb:Ex} {es:List Ex} {v:Value} (hT:DH w Q v es) (hk:es=[ea,eb]):∃b o c ca cb,v= .slice (some ⟨b,o,none⟩) 2 c∧Q b∧w.rangeAt b o ca∧w.rangeAt b (o+11) cb∧AW w Q ea ca∧AW w Q eb cb:=by
 subst hk;obtain⟨A,n,c,rfl,hn2, -⟩:=hT.slice;obtain rfl:n=2:=by rw[hn2];rfl
 obtain⟨b,o,ca,rfl,hbb,hra,hea⟩:=hT.at_ (j:=0) (e:=ea) rfl;obtain⟨b',o',cb,hbo, -,hrb,heb⟩:=hT.at_ (j:=1) (e:=eb) rfl;simp only[SW,Addr.mk.injEq,and_true]at hbo;obtain⟨rfl,rfl⟩:=hbo;rw[Nat.zero_mul,Nat.add_zero]at hra;rw[Nat.one_mul]at hrb;exact⟨b,o,c,ca,cb,rfl,hbb,hra,hrb,hea,heb⟩
theorem AW.grewQ {w w':World} {Q:Nat→Prop} {e:Ex} {cs:List Value} (h:AW w Q e cs) (hq:∀b,Q b→b<w.heap.size) (g:A5 w w'):AW w' Q e cs:=AW.keep (S:=fun _=>False) (fun b hb=>⟨hq b hb,fun h=>h,hb⟩) g e cs h
theorem AW.len {w:World} {Q:Nat→Prop} {e:Ex} {cs:List Value} (h:AW w Q e cs):cs.length=11:=by
 obtain⟨vm,vb,vk,rfl, -⟩:=h.open_;exact Ck _ _ _ _
def Qq (e:Ex) (f:Int) (Q:Nat→Prop) (w:World) (e':Ending) (w':World):Prop:=∃ca cb,e'= .returned (.tuple #[.agg ca.toArray,.agg cb.toArray,.bool (Gk e f)])∧AW w' Q (pt1 e f) ca∧AW w' Q (pt2 e f) cb∧A5 w w'
theorem GX {e:Ex} (he:CG e) (f:Int) {Q:Nat→Prop} {w:World} {cs:List Value} (hq:∀b,Q b→b<w.heap.size) (hr:AW w Q e cs):Calls Tryz.prog 89 #[.agg cs.toArray,.int .i64 f] w (Qq e f Q w):=by
 by_cases ho:e.kind=3∧e.fn=f
 ·have hop:Gk e f=true:=decide_eq_true ho;obtain⟨a,b,hk⟩:=he.top2 ho.1;obtain⟨vm,vb,vk,rfl, -, -,hT⟩:=hr.open_;obtain⟨b',o,c,ca,cb,rfl,hbq,hra,hrb,hea,heb⟩:=JQ hT hk;refine(NO e f vm vb b' o c ca cb w ho.1 ho.2 (hq _ hbq) hra hrb hea.len heb.len (fun v hv=>?_) (fun v hv=>?_)).mono ?_
  ·exact Al (AW.keep (S:=fun _=>False) (Q':=fun _=>True) (fun b hb=>⟨hq b hb,fun h=>h,trivial⟩) (Sa w) _ _ hea) v hv
  ·exact Al (AW.keep (S:=fun _=>False) (Q':=fun _=>True) (fun b hb=>⟨hq b hb,fun h=>h,trivial⟩) (Sa w) _ _ heb) v hv
  rintro e' w' ⟨rfl,g⟩;refine⟨ca,cb,by rw[hop],?_,?_,g⟩
  ·rw[pt1,hop,SR rfl,hk];exact hea.grewQ hq g
  rw[pt2,hop,SR rfl,hk];exact heb.grewQ hq g
 have hop:Gk e f=false:=SM ho;refine(Pg e f cs w w.heap.size (AW.toB hq e cs hr) ho).mono ?_;rintro e' w' ⟨rfl,g⟩;refine⟨AH 0 0,AH 0 0,by rw[hop],?_,?_,g⟩
 ·rw[pt1,hop,SQ (by decide)];exact OG _ _
 rw[pt2,hop,SQ (by decide)];exact OG _ _
theorem AW.one_ {w:World} {Q:Nat→Prop} {e:Ex} {cs:List Value} (h:AW w Q e cs) (hq:∀b,Q b→b<w.heap.size):∀v∈cs,v.oneCell'=true:=Al (AW.keep (S:=fun _=>False) (Q':=fun _=>True) (fun b hb=>⟨hq b hb,fun h=>h,trivial⟩) (Sa w) _ _ h)
def Ix (e x:Ex):Bool:=Gk e 2&&((Gw (pt2 e 2) 0&&Fg x (pt1 e 2))||(Gw (pt1 e 2) 0&&Fg x (pt2 e 2)))
theorem Fb {e x:Ex} (he:CG e) (hx:CG x) {w:World} {cse csx:List Value} (hwt:D5 w) (hot:Dc w) (hre:BZ w w.heap.size e cse) (hrx:BZ w w.heap.size x csx):
  Calls Tryz.prog 91 #[.agg cse.toArray,.agg csx.toArray] w fun e' w'=>e'= .returned (.bool (Ix e x))∧A5 w w':=by
 obtain⟨hb1,hb2,hG⟩:=Bz w 29 29 cse.toArray csx.toArray;have hreQ:AW w (fun b=>b<w.heap.size) e cse:=BZ.toQ (fun _ h=>h) _ _ hre;have HP:=S9 (fun w' (g:A5 w w')=>GX he 2 (Q:=fun b=>b<w.heap.size) (fun b hb=>SE hb g.size) (hreQ.grewQ (fun _ h=>h) g));have HC:=S9 (SC hwt (SC hot (SC hrx (SC he hx))));have HLe:=S9 (BX hre);have HLx:=S9 (BX hrx);obtain⟨r,hr⟩:∃r,Ix e x=r:=⟨_,rfl⟩;rw[hr];have HR:=S9 hr;clear he hx hwt hot hre hrx hreQ hr;go_enter Tryz.func91,Tryz.ntmps91;go_upto_region 1 with fail;change Code.wp _ _ _ _ ((w.alloc (.cells cse.toArray 29)).alloc (.cells csx.toArray 29));generalize (w.alloc (.cells cse.toArray 29)).alloc (.cells csx.toArray 29)=w1 at*;have HB1:=S9 (show ∀w',A5 w1 w'→w'.rangeAt w.heap.size 0 cse from fun w' g=>(hb1.grew g).rangeN 0 _ (by simp));have HG0:=S9 hG;have HB2:=S9 hb2;clear hb1 hb2 hG;go_upto_region 2 with(first|((with_reducible refine AG 29 (.tmp 2) rfl ?_);refine wpList_load_mid rfl 29 (.tmp 2) rfl (w.heap.size) 0 rfl cse _ (HB1.out _ (Sa _)) Tryz.underlying29 rfl (by rw[HLe.out];exact AD) ?_)|(go_at_call 89;(with_reducible refine(HP.out _ HG0.out).mono ?_);rintro e3 wa ⟨ca,cb,rfl,hca,hcb,ka⟩;obtain⟨y1,y2,y3⟩:=Bz wa 29 29 (AH 0 0).toArray (AH 0 0).toArray;have hla:=hca.len;have hlb:=hcb.len;have hzs:=SH HG0.out.size ka.size;have hoa:=hca.one_ (fun b hb=>SE hb hzs);have hob:=hcb.one_ (fun b hb=>SE hb hzs))|((with_reducible refine AF 29 (.tmp 5) (.tmp 11) rfl ?_);refine Ar 29 (.tmp 5) (.tmp 11) (wa.heap.size) ca (AH 0 0) 29 (by rw[hla];exact AD) (by rw[hla];rfl) hoa rfl rfl rfl rfl y1 ?_;intro wb hb5 k5 d5;have hb5':=y2.keep k5 (by omega))|((with_reducible refine AF 29 (.tmp 6) (.tmp 12) rfl ?_);refine Ar 29 (.tmp 6) (.tmp 12) (wa.heap.size+1) cb (AH 0 0) 29 (by rw[hlb];exact AD) (by rw[hlb];rfl) hob rfl rfl rfl rfl hb5' ?_;intro wc hb6 k6 d6;have hb56:=hb5.keep k6 (by omega)));have hac:A5 wa wc:=Sb (Sb y3 k5 fun i hi e=>by omega) k6 fun i hi e=>by omega
 have h0c:A5 w wc:=(HG0.out.trans ka).trans hac;have H0:=S9 h0c;have HBx:=S9 (HB2.out.grew (ka.trans hac));have HBa:=S9 hb56;have HBb:=S9 hb6;have hqz:∀w',A5 w w'→∀b,b<w.heap.size→b<w'.heap.size:=fun w' g b hb=>SE hb g.size
 have hca':BZ wc wc.heap.size (pt1 e 2) ca:=AW.toB (hqz _ h0c) _ _ (hca.grewQ (fun b hb=>SE hb hzs) hac);have hcb':BZ wc wc.heap.size (pt2 e 2) cb:=AW.toB (hqz _ h0c) _ _ (hcb.grewQ (fun b hb=>SE hb hzs) hac);have HI2:=S9 (fun w' (g:A5 wc w')=>CE (pt2 e 2) 0 cb w' _ (hcb'.grew g));have HI1:=S9 (fun w' (g:A5 wc w')=>CE (pt1 e 2) 0 ca w' _ (hca'.grew g));have HS1:=S9 (fun w' (g:A5 wc w')=>Iy HC.out.2.2.2.2 (HC.out.2.2.2.1.pt1 2) (HC.out.1.grew (h0c.trans g)) (HC.out.2.1.keep (h0c.trans g) (fun h=>h)) (HC.out.2.2.1.grew (h0c.trans g)) (hca'.grew g));have HS2:=S9 (fun w' (g:A5 wc w')=>Iy HC.out.2.2.2.2 (HC.out.2.2.2.1.pt2 2) (HC.out.1.grew (h0c.trans g)) (HC.out.2.1.keep (h0c.trans g) (fun h=>h)) (HC.out.2.2.1.grew (h0c.trans g)) (hcb'.grew g));have HLa:=S9 hla;have HLb:=S9 hlb;have hr:=HR.out;unfold Ix at hr;obtain⟨o,ho⟩:∃o,Gk e 2=o:=⟨_,rfl⟩;obtain⟨q2,hq2⟩:∃o,Gw (pt2 e 2) 0=o:=⟨_,rfl⟩;obtain⟨q1,hq1⟩:∃o,Gw (pt1 e 2) 0=o:=⟨_,rfl⟩;obtain⟨s1,hs1⟩:∃o,Fg x (pt1 e 2)=o:=⟨_,rfl⟩;obtain⟨s2,hs2⟩:∃o,Fg x (pt2 e 2)=o:=⟨_,rfl⟩;rw[ho,hq2,hq1,hs1,hs2]at hr;rw[hq2]at HI2;rw[hq1]at HI1;rw[hs1]at HS1;rw[hs2]at HS2;rw[ho];clear HP HR HC HB1 HB2 hca hcb hca' hcb' hla hlb hoa hob hb56 hb6 hb5 hb5' y1 y2 y3 k5 k6 d5 d6 ka hac h0c hzs hqz ho hq2 hq1 hs1 hs2;generalize wa.heap.size=z at*;rcases o with _|_
 ·refine AK [.bool false,.bool false,undef,undef,undef,undef,undef,undef,undef,undef,undef,undef,undef,undef,undef,undef,undef,undef,.bool false,.bool false] _ (by kernel_rfl) (by kernel_rfl) rfl ?sH ?sT
  case sH=>
   simp only[List.toList_toArray,List.append_eq,List.cons_append,List.nil_append,AI,Act.put,List.setIfInBounds_toArray,List.set_cons_zero,List.set_cons_succ];refine A4 (by kernel_rfl) (fun w' hg=>?_) ?_
   ·go_simp;exact Sa _
   refine A4 (by kernel_rfl) (fun w' hg=>?_) ?_
   ·go_simp;exact Sa _
   refine AA (by kernel_rfl) (by kernel_rfl) ?_;refine AA (by kernel_rfl) (by kernel_rfl) ?_;refine AA (by kernel_rfl) (by kernel_rfl) ?_;refine AA (by kernel_rfl) (by kernel_rfl) ?_;refine AA (by kernel_rfl) (by kernel_rfl) ?_;refine AA (by kernel_rfl) (by kernel_rfl) ?_;refine AA (by kernel_rfl) (by kernel_rfl) ?_;refine AA (by kernel_rfl) (by kernel_rfl) ?_;refine AA (by kernel_rfl) (by kernel_rfl) ?_;refine AA (by kernel_rfl) (by kernel_rfl) ?_;refine AA (by kernel_rfl) (by kernel_rfl) ?_;refine AA (by kernel_rfl) (by kernel_rfl) ?_;refine AA (by kernel_rfl) (by kernel_rfl) ?_;refine AA (by kernel_rfl) (by kernel_rfl) ?_;refine AA (by kernel_rfl) (by kernel_rfl) ?_;refine AA (by kernel_rfl) (by kernel_rfl) ?_;refine A4 (by kernel_rfl) (fun w' hg=>?_) ?_
   ·go_simp;exact Sa _
   refine A4 (by kernel_rfl) (fun w' hg=>?_) ?_
   ·go_simp;exact Sa _
   exact AQ
  case sT=>
   intro w9 hg9;simp only[List.toList_toArray,List.append_eq,List.cons_append,List.nil_append,AI,Act.put,List.setIfInBounds_toArray,List.set_cons_zero,List.set_cons_succ];go_wp2_with fail;go_ret;exact⟨by rw[←hr];simp,H0.out.trans hg9⟩
 rcases q2 with _|_
 ·rcases q1 with _|_
  ·refine AK [.bool true,.bool true,.agg cb.toArray,.bool false,.bool false,undef,undef,undef,.bool false,.bool false,.agg ca.toArray,.bool false,.bool false,undef,undef,undef,.bool false,.bool false,.bool false,.bool false] _ (by kernel_rfl) (by kernel_rfl) rfl ?sH ?sT
   case sH=>
    simp only[List.toList_toArray,List.append_eq,List.cons_append,List.nil_append,AI,Act.put,List.setIfInBounds_toArray,List.set_cons_zero,List.set_cons_succ];refine A4 (by kernel_rfl) (fun w' hg=>?_) ?_
    ·go_simp;exact Sa _
    refine A4 (by kernel_rfl) (fun w' hg=>?_) ?_
    ·go_simp;exact Sa _
    refine A4 (by kernel_rfl) (fun w' hg=>?_) ?_
    ·refine wp_load_mid 29 (.tmp 6) rfl (z+1) 0 rfl cb _ ((HBb.out.grew hg).rangeN 0 _ (by simp)) Tryz.underlying29 rfl (by rw[HLb.out];exact AD) ?_;exact⟨rfl,Sa _⟩
    refine A4 (by kernel_rfl) (fun w' hg=>?_) ?_
    ·go_simp;(with_reducible refine(HI2.out _ hg).mono ?_);rintro e wq ⟨rfl,kq⟩;exact⟨rfl,kq⟩
    refine A4 (by kernel_rfl) (fun w' hg=>?_) ?_
    ·go_simp;exact Sa _
    refine AA (by kernel_rfl) (by kernel_rfl) ?_;refine AA (by kernel_rfl) (by kernel_rfl) ?_;refine AA (by kernel_rfl) (by kernel_rfl) ?_;refine A4 (by kernel_rfl) (fun w' hg=>?_) ?_
    ·go_simp;exact Sa _
    refine A4 (by kernel_rfl) (fun w' hg=>?_) ?_
    ·go_simp;exact Sa _
    refine A4 (by kernel_rfl) (fun w' hg=>?_) ?_
    ·refine wp_load_mid 29 (.tmp 5) rfl (z) 0 rfl ca _ ((HBa.out.grew hg).rangeN 0 _ (by simp)) Tryz.underlying29 rfl (by rw[HLa.out];exact AD) ?_;exact⟨rfl,Sa _⟩
    refine A4 (by kernel_rfl) (fun w' hg=>?_) ?_
    ·go_simp;(with_reducible refine(HI1.out _ hg).mono ?_);rintro e wq ⟨rfl,kq⟩;exact⟨rfl,kq⟩
    refine A4 (by kernel_rfl) (fun w' hg=>?_) ?_
    ·go_simp;exact Sa _
    refine AA (by kernel_rfl) (by kernel_rfl) ?_;refine AA (by kernel_rfl) (by kernel_rfl) ?_;refine AA (by kernel_rfl) (by kernel_rfl) ?_;refine A4 (by kernel_rfl) (fun w' hg=>?_) ?_
    ·go_simp;exact Sa _
    refine A4 (by kernel_rfl) (fun w' hg=>?_) ?_
    ·go_simp;exact Sa _
    refine A4 (by kernel_rfl) (fun w' hg=>?_) ?_
    ·go_simp;exact Sa _
    refine A4 (by kernel_rfl) (fun w' hg=>?_) ?_
    ·go_simp;exact Sa _
    exact AQ
   case sT=>
    intro w9 hg9;simp only[List.toList_toArray,List.append_eq,List.cons_append,List.nil_append,AI,Act.put,List.setIfInBounds_toArray,List.set_cons_zero,List.set_cons_succ];go_wp2_with fail;go_ret;exact⟨by rw[←hr];simp,H0.out.trans hg9⟩
  refine AK [.bool true,.bool true,.agg cb.toArray,.bool false,.bool false,undef,undef,undef,.bool false,.bool false,.agg ca.toArray,.bool true,.bool true,.agg csx.toArray,.agg cb.toArray,.bool s2,.bool s2,.bool s2,.bool s2,.bool s2] _ (by kernel_rfl) (by kernel_rfl) rfl ?sH ?sT
  case sH=>
   simp only[List.toList_toArray,List.append_eq,List.cons_append,List.nil_append,AI,Act.put,List.setIfInBounds_toArray,List.set_cons_zero,List.set_cons_succ];refine A4 (by kernel_rfl) (fun w' hg=>?_) ?_
   ·go_simp;exact Sa _
   refine A4 (by kernel_rfl) (fun w' hg=>?_) ?_
   ·go_simp;exact Sa _
   refine A4 (by kernel_rfl) (fun w' hg=>?_) ?_
   ·refine wp_load_mid 29 (.tmp 6) rfl (z+1) 0 rfl cb _ ((HBb.out.grew hg).rangeN 0 _ (by simp)) Tryz.underlying29 rfl (by rw[HLb.out];exact AD) ?_;exact⟨rfl,Sa _⟩
   refine A4 (by kernel_rfl) (fun w' hg=>?_) ?_
   ·go_simp;(with_reducible refine(HI2.out _ hg).mono ?_);rintro e wq ⟨rfl,kq⟩;exact⟨rfl,kq⟩
   refine A4 (by kernel_rfl) (fun w' hg=>?_) ?_
   ·go_simp;exact Sa _
   refine AA (by kernel_rfl) (by kernel_rfl) ?_;refine AA (by kernel_rfl) (by kernel_rfl) ?_;refine AA (by kernel_rfl) (by kernel_rfl) ?_;refine A4 (by kernel_rfl) (fun w' hg=>?_) ?_
   ·go_simp;exact Sa _
   refine A4 (by kernel_rfl) (fun w' hg=>?_) ?_
   ·go_simp;exact Sa _
   refine A4 (by kernel_rfl) (fun w' hg=>?_) ?_
   ·refine wp_load_mid 29 (.tmp 5) rfl (z) 0 rfl ca _ ((HBa.out.grew hg).rangeN 0 _ (by simp)) Tryz.underlying29 rfl (by rw[HLa.out];exact AD) ?_;exact⟨rfl,Sa _⟩
   refine A4 (by kernel_rfl) (fun w' hg=>?_) ?_
   ·go_simp;(with_reducible refine(HI1.out _ hg).mono ?_);rintro e wq ⟨rfl,kq⟩;exact⟨rfl,kq⟩
   refine A4 (by kernel_rfl) (fun w' hg=>?_) ?_
   ·go_simp;exact Sa _
   refine A4 (by kernel_rfl) (fun w' hg=>?_) ?_
   ·refine wp_load_mid 29 (.tmp 3) rfl (w.heap.size+1) 0 rfl csx _ ((HBx.out.grew hg).rangeN 0 _ (by simp)) Tryz.underlying29 rfl (by rw[HLx.out];exact AD) ?_;exact⟨rfl,Sa _⟩
   refine A4 (by kernel_rfl) (fun w' hg=>?_) ?_
   ·refine wp_load_mid 29 (.tmp 6) rfl (z+1) 0 rfl cb _ ((HBb.out.grew hg).rangeN 0 _ (by simp)) Tryz.underlying29 rfl (by rw[HLb.out];exact AD) ?_;exact⟨rfl,Sa _⟩
   refine A4 (by kernel_rfl) (fun w' hg=>?_) ?_
   ·go_simp;(with_reducible refine(HS2.out _ hg).mono ?_);rintro e wq ⟨rfl,kq⟩;exact⟨rfl,kq⟩
   refine A4 (by kernel_rfl) (fun w' hg=>?_) ?_
   ·go_simp;exact Sa _
   refine A4 (by kernel_rfl) (fun w' hg=>?_) ?_
   ·go_simp;exact Sa _
   refine A4 (by kernel_rfl) (fun w' hg=>?_) ?_
   ·go_simp;exact Sa _
   refine A4 (by kernel_rfl) (fun w' hg=>?_) ?_
   ·go_simp;exact Sa _
   exact AQ
  case sT=>
   intro w9 hg9;simp only[List.toList_toArray,List.append_eq,List.cons_append,List.nil_append,AI,Act.put,List.setIfInBounds_toArray,List.set_cons_zero,List.set_cons_succ];go_wp2_with fail;go_ret;exact⟨by rw[←hr];simp,H0.out.trans hg9⟩
 rcases s1 with _|_
 ·rcases q1 with _|_
  ·refine AK [.bool true,.bool true,.agg cb.toArray,.bool true,.bool true,.agg csx.toArray,.agg ca.toArray,.bool false,.bool false,.bool false,.agg ca.toArray,.bool false,.bool false,undef,undef,undef,.bool false,.bool false,.bool false,.bool false] _ (by kernel_rfl) (by kernel_rfl) rfl ?sH ?sT
   case sH=>
    simp only[List.toList_toArray,List.append_eq,List.cons_append,List.nil_append,AI,Act.put,List.setIfInBounds_toArray,List.set_cons_zero,List.set_cons_succ];refine A4 (by kernel_rfl) (fun w' hg=>?_) ?_
    ·go_simp;exact Sa _
    refine A4 (by kernel_rfl) (fun w' hg=>?_) ?_
    ·go_simp;exact Sa _
    refine A4 (by kernel_rfl) (fun w' hg=>?_) ?_
    ·refine wp_load_mid 29 (.tmp 6) rfl (z+1) 0 rfl cb _ ((HBb.out.grew hg).rangeN 0 _ (by simp)) Tryz.underlying29 rfl (by rw[HLb.out];exact AD) ?_;exact⟨rfl,Sa _⟩
    refine A4 (by kernel_rfl) (fun w' hg=>?_) ?_
    ·go_simp;(with_reducible refine(HI2.out _ hg).mono ?_);rintro e wq ⟨rfl,kq⟩;exact⟨rfl,kq⟩
    refine A4 (by kernel_rfl) (fun w' hg=>?_) ?_
    ·go_simp;exact Sa _
    refine A4 (by kernel_rfl) (fun w' hg=>?_) ?_
    ·refine wp_load_mid 29 (.tmp 3) rfl (w.heap.size+1) 0 rfl csx _ ((HBx.out.grew hg).rangeN 0 _ (by simp)) Tryz.underlying29 rfl (by rw[HLx.out];exact AD) ?_;exact⟨rfl,Sa _⟩
    refine A4 (by kernel_rfl) (fun w' hg=>?_) ?_
    ·refine wp_load_mid 29 (.tmp 5) rfl (z) 0 rfl ca _ ((HBa.out.grew hg).rangeN 0 _ (by simp)) Tryz.underlying29 rfl (by rw[HLa.out];exact AD) ?_;exact⟨rfl,Sa _⟩
    refine A4 (by kernel_rfl) (fun w' hg=>?_) ?_
    ·go_simp;(with_reducible refine(HS1.out _ hg).mono ?_);rintro e wq ⟨rfl,kq⟩;exact⟨rfl,kq⟩
    refine A4 (by kernel_rfl) (fun w' hg=>?_) ?_
    ·go_simp;exact Sa _
    refine A4 (by kernel_rfl) (fun w' hg=>?_) ?_
    ·go_simp;exact Sa _
    refine A4 (by kernel_rfl) (fun w' hg=>?_) ?_
    ·refine wp_load_mid 29 (.tmp 5) rfl (z) 0 rfl ca _ ((HBa.out.grew hg).rangeN 0 _ (by simp)) Tryz.underlying29 rfl (by rw[HLa.out];exact AD) ?_;exact⟨rfl,Sa _⟩
    refine A4 (by kernel_rfl) (fun w' hg=>?_) ?_
    ·go_simp;(with_reducible refine(HI1.out _ hg).mono ?_);rintro e wq ⟨rfl,kq⟩;exact⟨rfl,kq⟩
    refine A4 (by kernel_rfl) (fun w' hg=>?_) ?_
    ·go_simp;exact Sa _
    refine AA (by kernel_rfl) (by kernel_rfl) ?_;refine AA (by kernel_rfl) (by kernel_rfl) ?_;refine AA (by kernel_rfl) (by kernel_rfl) ?_;refine A4 (by kernel_rfl) (fun w' hg=>?_) ?_
    ·go_simp;exact Sa _
    refine A4 (by kernel_rfl) (fun w' hg=>?_) ?_
    ·go_simp;exact Sa _
    refine A4 (by kernel_rfl) (fun w' hg=>?_) ?_
    ·go_simp;exact Sa _
    refine A4 (by kernel_rfl) (fun w' hg=>?_) ?_
    ·go_simp;exact Sa _
    exact AQ
   case sT=>
    intro w9 hg9;simp only[List.toList_toArray,List.append_eq,List.cons_append,List.nil_append,AI,Act.put,List.setIfInBounds_toArray,List.set_cons_zero,List.set_cons_succ];go_wp2_with fail;go_ret;exact⟨by rw[←hr];simp,H0.out.trans hg9⟩
  refine AK [.bool true,.bool true,.agg cb.toArray,.bool true,.bool true,.agg csx.toArray,.agg ca.toArray,.bool false,.bool false,.bool false,.agg ca.toArray,.bool true,.bool true,.agg csx.toArray,.agg cb.toArray,.bool s2,.bool s2,.bool s2,.bool s2,.bool s2] _ (by kernel_rfl) (by kernel_rfl) rfl ?sH ?sT
  case sH=>
   simp only[List.toList_toArray,List.append_eq,List.cons_append,List.nil_append,AI,Act.put,List.setIfInBounds_toArray,List.set_cons_zero,List.set_cons_succ];refine A4 (by kernel_rfl) (fun w' hg=>?_) ?_
   ·go_simp;exact Sa _
   refine A4 (by kernel_rfl) (fun w' hg=>?_) ?_
   ·go_simp;exact Sa _
   refine A4 (by kernel_rfl) (fun w' hg=>?_) ?_
   ·refine wp_load_mid 29 (.tmp 6) rfl (z+1) 0 rfl cb _ ((HBb.out.grew hg).rangeN 0 _ (by simp)) Tryz.underlying29 rfl (by rw[HLb.out];exact AD) ?_;exact⟨rfl,Sa _⟩
   refine A4 (by kernel_rfl) (fun w' hg=>?_) ?_
   ·go_simp;(with_reducible refine(HI2.out _ hg).mono ?_);rintro e wq ⟨rfl,kq⟩;exact⟨rfl,kq⟩
   refine A4 (by kernel_rfl) (fun w' hg=>?_) ?_
   ·go_simp;exact Sa _
   refine A4 (by kernel_rfl) (fun w' hg=>?_) ?_
   ·refine wp_load_mid 29 (.tmp 3) rfl (w.heap.size+1) 0 rfl csx _ ((HBx.out.grew hg).rangeN 0 _ (by simp)) Tryz.underlying29 rfl (by rw[HLx.out];exact AD) ?_;exact⟨rfl,Sa _⟩
   refine A4 (by kernel_rfl) (fun w' hg=>?_) ?_
   ·refine wp_load_mid 29 (.tmp 5) rfl (z) 0 rfl ca _ ((HBa.out.grew hg).rangeN 0 _ (by simp)) Tryz.underlying29 rfl (by rw[HLa.out];exact AD) ?_;exact⟨rfl,Sa _⟩
   refine A4 (by kernel_rfl) (fun w' hg=>?_) ?_
   ·go_simp;(with_reducible refine(HS1.out _ hg).mono ?_);rintro e wq ⟨rfl,kq⟩;exact⟨rfl,kq⟩
   refine A4 (by kernel_rfl) (fun w' hg=>?_) ?_
   ·go_simp;exact Sa _
   refine A4 (by kernel_rfl) (fun w' hg=>?_) ?_
   ·go_simp;exact Sa _
   refine A4 (by kernel_rfl) (fun w' hg=>?_) ?_
   ·refine wp_load_mid 29 (.tmp 5) rfl (z) 0 rfl ca _ ((HBa.out.grew hg).rangeN 0 _ (by simp)) Tryz.underlying29 rfl (by rw[HLa.out];exact AD) ?_;exact⟨rfl,Sa _⟩
   refine A4 (by kernel_rfl) (fun w' hg=>?_) ?_
   ·go_simp;(with_reducible refine(HI1.out _ hg).mono ?_);rintro e wq ⟨rfl,kq⟩;exact⟨rfl,kq⟩
   refine A4 (by kernel_rfl) (fun w' hg=>?_) ?_
   ·go_simp;exact Sa _
   refine A4 (by kernel_rfl) (fun w' hg=>?_) ?_
   ·refine wp_load_mid 29 (.tmp 3) rfl (w.heap.size+1) 0 rfl csx _ ((HBx.out.grew hg).rangeN 0 _ (by simp)) Tryz.underlying29 rfl (by rw[HLx.out];exact AD) ?_;exact⟨rfl,Sa _⟩
   refine A4 (by kernel_rfl) (fun w' hg=>?_) ?_
   ·refine wp_load_mid 29 (.tmp 6) rfl (z+1) 0 rfl cb _ ((HBb.out.grew hg).rangeN 0 _ (by simp)) Tryz.underlying29 rfl (by rw[HLb.out];exact AD) ?_;exact⟨rfl,Sa _⟩
   refine A4 (by kernel_rfl) (fun w' hg=>?_) ?_
   ·go_simp;(with_reducible refine(HS2.out _ hg).mono ?_);rintro e wq ⟨rfl,kq⟩;exact⟨rfl,kq⟩
   refine A4 (by kernel_rfl) (fun w' hg=>?_) ?_
   ·go_simp;exact Sa _
   refine A4 (by kernel_rfl) (fun w' hg=>?_) ?_
   ·go_simp;exact Sa _
   refine A4 (by kernel_rfl) (fun w' hg=>?_) ?_
   ·go_simp;exact Sa _
   refine A4 (by kernel_rfl) (fun w' hg=>?_) ?_
   ·go_simp;exact Sa _
   exact AQ
  case sT=>
   intro w9 hg9;simp only[List.toList_toArray,List.append_eq,List.cons_append,List.nil_append,AI,Act.put,List.setIfInBounds_toArray,List.set_cons_zero,List.set_cons_succ];go_wp2_with fail;go_ret;exact⟨by rw[←hr];simp,H0.out.trans hg9⟩
 refine AK [.bool true,.bool true,.agg cb.toArray,.bool true,.bool true,.agg csx.toArray,.agg ca.toArray,.bool true,.bool true,.bool true,undef,undef,undef,undef,undef,undef,undef,.bool true,.bool true,.bool true] _ (by kernel_rfl) (by kernel_rfl) rfl ?sH ?sT
 case sH=>
  simp only[List.toList_toArray,List.append_eq,List.cons_append,List.nil_append,AI,Act.put,List.setIfInBounds_toArray,List.set_cons_zero,List.set_cons_succ];refine A4 (by kernel_rfl) (fun w' hg=>?_) ?_
  ·go_simp;exact Sa _
  refine A4 (by kernel_rfl) (fun w' hg=>?_) ?_
  ·go_simp;exact Sa _
  refine A4 (by kernel_rfl) (fun w' hg=>?_) ?_
  ·refine wp_load_mid 29 (.tmp 6) rfl (z+1) 0 rfl cb _ ((HBb.out.grew hg).rangeN 0 _ (by simp)) Tryz.underlying29 rfl (by rw[HLb.out];exact AD) ?_;exact⟨rfl,Sa _⟩
  refine A4 (by kernel_rfl) (fun w' hg=>?_) ?_
  ·go_simp;(with_reducible refine(HI2.out _ hg).mono ?_);rintro e wq ⟨rfl,kq⟩;exact⟨rfl,kq⟩
  refine A4 (by kernel_rfl) (fun w' hg=>?_) ?_
  ·go_simp;exact Sa _
  refine A4 (by kernel_rfl) (fun w' hg=>?_) ?_
  ·refine wp_load_mid 29 (.tmp 3) rfl (w.heap.size+1) 0 rfl csx _ ((HBx.out.grew hg).rangeN 0 _ (by simp)) Tryz.underlying29 rfl (by rw[HLx.out];exact AD) ?_;exact⟨rfl,Sa _⟩
  refine A4 (by kernel_rfl) (fun w' hg=>?_) ?_
  ·refine wp_load_mid 29 (.tmp 5) rfl (z) 0 rfl ca _ ((HBa.out.grew hg).rangeN 0 _ (by simp)) Tryz.underlying29 rfl (by rw[HLa.out];exact AD) ?_;exact⟨rfl,Sa _⟩
  refine A4 (by kernel_rfl) (fun w' hg=>?_) ?_
  ·go_simp;(with_reducible refine(HS1.out _ hg).mono ?_);rintro e wq ⟨rfl,kq⟩;exact⟨rfl,kq⟩
  refine A4 (by kernel_rfl) (fun w' hg=>?_) ?_
  ·go_simp;exact Sa _
  refine A4 (by kernel_rfl) (fun w' hg=>?_) ?_
  ·go_simp;exact Sa _
  refine AA (by kernel_rfl) (by kernel_rfl) ?_;refine AA (by kernel_rfl) (by kernel_rfl) ?_;refine AA (by kernel_rfl) (by kernel_rfl) ?_;refine AA (by kernel_rfl) (by kernel_rfl) ?_;refine AA (by kernel_rfl) (by kernel_rfl) ?_;refine AA (by kernel_rfl) (by kernel_rfl) ?_;refine AA (by kernel_rfl) (by kernel_rfl) ?_;refine A4 (by kernel_rfl) (fun w' hg=>?_) ?_
  ·go_simp;exact Sa _
  refine A4 (by kernel_rfl) (fun w' hg=>?_) ?_
  ·go_simp;exact Sa _
  refine A4 (by kernel_rfl) (fun w' hg=>?_) ?_
  ·go_simp;exact Sa _
  exact AQ
 case sT=>
  intro w9 hg9;simp only[List.toList_toArray,List.append_eq,List.cons_append,List.nil_append,AI,Act.put,List.setIfInBounds_toArray,List.set_cons_zero,List.set_cons_succ];go_wp2_with fail;go_ret;exact⟨by rw[←hr];simp,H0.out.trans hg9⟩
end Go.Proofs.YthpflelgbadkcaaGreatDoor
