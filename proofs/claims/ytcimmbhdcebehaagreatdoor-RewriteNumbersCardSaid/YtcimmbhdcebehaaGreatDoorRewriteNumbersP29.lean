/- package rewrite: parts by a plain function, nothing's closure. -/
import Derived.Test.YtcimmbhdcebehaaGreatDoorRewriteNumbersP01
import Derived.Test.YtcimmbhdcebehaaGreatDoorRewriteNumbersP28
set_option maxRecDepth 100000
set_option maxHeartbeats 12800000
set_option linter.unusedVariables false
set_option linter.unusedSimpArgs false
namespace Go.Proofs.YtcimmbhdcebehaaGreatDoor
open Go.RowKit Pl
def zE:Ex:= .mk 0 0 0 0 0 0 0 ⟨#[]⟩ [] [] []
def opE (e:Ex) (f:Int):Bool:=decide (e.kind=3∧e.fn=f)
def pt1 (e:Ex) (f:Int):Ex:=if opE e f then e.kids.getD 0 zE else zE
def pt2 (e:Ex) (f:Int):Ex:=if opE e f then e.kids.getD 1 zE else zE
theorem zE_rd (w:World) (Q:Nat→Prop):RdEQ w Q zE (numL 0 0):=RdEQ.mk_ (e:=zE) (RdRQ.nil _ _ _) (RdRQ.nil _ _ _) (RdTQ.nil _ _)
theorem zE_ok:RwOk zE:=⟨AllE_iff.2 ⟨.inl ⟨rfl,rfl⟩,fun k hk=>nomatch hk⟩,by unfold zE tidyE tidyKs;exact⟨Nat.zero_le _,Nat.zero_le _,trivial⟩,by decide⟩
theorem RwOk.top2 {e:Ex} (h:RwOk e) (h3:e.kind=3):∃a b,e.kids=[a,b]:=src_two3 h.1.top h3
theorem RwOk.pt1 {e:Ex} (h:RwOk e) (f:Int):RwOk (pt1 e f):=by
 unfold Go.Proofs.YtcimmbhdcebehaaGreatDoor.pt1;split
 ·rename_i ho
  obtain⟨h3, -⟩:=of_decide_eq_true ho;obtain⟨a,b,hk⟩:=h.top2 h3;rw[hk];exact h.kid (by rw[hk];exact List.mem_cons_self)
 exact zE_ok
theorem RwOk.pt2 {e:Ex} (h:RwOk e) (f:Int):RwOk (pt2 e f):=by
 unfold Go.Proofs.YtcimmbhdcebehaaGreatDoor.pt2;split
 ·rename_i ho
  obtain⟨h3, -⟩:=of_decide_eq_true ho;obtain⟨a,b,hk⟩:=h.top2 h3;rw[hk];exact h.kid (by rw[hk];simp)
 exact zE_ok
theorem kids_twoQ {w:World} {Q:Nat→Prop} {ea eb:Ex} {es:List Ex} {v:Value} (hT:RdTQ w Q v es) (hk:es=[ea,eb]):∃b o c ca cb,v= .slice (some ⟨b,o,none⟩) 2 c∧Q b∧w.rangeAt b o ca∧w.rangeAt b (o+11) cb∧RdEQ w Q ea ca∧RdEQ w Q eb cb:=by
 subst hk;obtain⟨A,n,c,rfl,hn2, -⟩:=hT.slice;obtain rfl:n=2:=by rw[hn2];rfl
 obtain⟨b,o,ca,rfl,hbb,hra,hea⟩:=hT.at_ (j:=0) (e:=ea) rfl;obtain⟨b',o',cb,hbo, -,hrb,heb⟩:=hT.at_ (j:=1) (e:=eb) rfl;simp only[Option.some.injEq,Addr.mk.injEq,and_true]at hbo;obtain⟨rfl,rfl⟩:=hbo;rw[Nat.zero_mul,Nat.add_zero]at hra;rw[Nat.one_mul]at hrb;exact⟨b,o,c,ca,cb,rfl,hbb,hra,hrb,hea,heb⟩
theorem RdEQ.grewQ {w w':World} {Q:Nat→Prop} {e:Ex} {cs:List Value} (h:RdEQ w Q e cs) (hq:∀b,Q b→b<w.heap.size) (g:Grew w w'):RdEQ w' Q e cs:=RdEQ.keep (S:=fun _=>False) (fun b hb=>⟨hq b hb,fun h=>h,hb⟩) g e cs h
theorem RdEQ.len {w:World} {Q:Nat→Prop} {e:Ex} {cs:List Value} (h:RdEQ w Q e cs):cs.length=11:=by
 obtain⟨vm,vb,vk,rfl, -⟩:=h.open_;exact cells11_len _ _ _ _
def PartsQ (e:Ex) (f:Int) (Q:Nat→Prop) (w:World) (e':Ending) (w':World):Prop:=∃ca cb,e'= .returned (.tuple #[.agg ca.toArray,.agg cb.toArray,.bool (opE e f)])∧RdEQ w' Q (pt1 e f) ca∧RdEQ w' Q (pt2 e f) cb∧Grew w w'
theorem parts_q {e:Ex} (he:RwOk e) (f:Int) {Q:Nat→Prop} {w:World} {cs:List Value} (hq:∀b,Q b→b<w.heap.size) (hr:RdEQ w Q e cs):Calls Tryz.prog 85 #[.agg cs.toArray,.int .i64 f] w (PartsQ e f Q w):=by
 by_cases ho:e.kind=3∧e.fn=f
 ·have hop:opE e f=true:=decide_eq_true ho;obtain⟨a,b,hk⟩:=he.top2 ho.1;obtain⟨vm,vb,vk,rfl, -, -,hT⟩:=hr.open_;obtain⟨b',o,c,ca,cb,rfl,hbq,hra,hrb,hea,heb⟩:=kids_twoQ hT hk;refine(parts_yes e f vm vb b' o c ca cb w ho.1 ho.2 (hq _ hbq) hra hrb hea.len heb.len (fun v hv=>?_) (fun v hv=>?_)).mono ?_
  ·exact cells11_one (RdEQ.keep (S:=fun _=>False) (Q':=fun _=>True) (fun b hb=>⟨hq b hb,fun h=>h,trivial⟩) (Grew.refl w) _ _ hea) v hv
  ·exact cells11_one (RdEQ.keep (S:=fun _=>False) (Q':=fun _=>True) (fun b hb=>⟨hq b hb,fun h=>h,trivial⟩) (Grew.refl w) _ _ heb) v hv
  rintro e' w' ⟨rfl,g⟩;refine⟨ca,cb,by rw[hop],?_,?_,g⟩
  ·rw[pt1,hop,if_pos rfl,hk];exact hea.grewQ hq g
  rw[pt2,hop,if_pos rfl,hk];exact heb.grewQ hq g
 have hop:opE e f=false:=decide_eq_false ho;refine(parts_no e f cs w w.heap.size (RdEQ.toB hq e cs hr) ho).mono ?_;rintro e' w' ⟨rfl,g⟩;refine⟨numL 0 0,numL 0 0,by rw[hop],?_,?_,g⟩
 ·rw[pt1,hop,if_neg (by decide)];exact zE_rd _ _
 rw[pt2,hop,if_neg (by decide)];exact zE_rd _ _
theorem RdEQ.one_ {w:World} {Q:Nat→Prop} {e:Ex} {cs:List Value} (h:RdEQ w Q e cs) (hq:∀b,Q b→b<w.heap.size):∀v∈cs,v.oneCell'=true:=cells11_one (RdEQ.keep (S:=fun _=>False) (Q':=fun _=>True) (fun b hb=>⟨hq b hb,fun h=>h,trivial⟩) (Grew.refl w) _ _ h)
def notE (e x:Ex):Bool:=opE e 2&&((isE (pt2 e 2) 0&&sameE x (pt1 e 2))||(isE (pt1 e 2) 0&&sameE x (pt2 e 2)))
theorem no1_any {e x:Ex} (he:RwOk e) (hx:RwOk x) {w:World} {cse csx:List Value} (hwt:WTab w) (hot:OTab w) (hre:RdE w w.heap.size e cse) (hrx:RdE w w.heap.size x csx):
  Calls Tryz.prog 87 #[.agg cse.toArray,.agg csx.toArray] w fun e' w'=>e'= .returned (.bool (notE e x))∧Grew w w':=by
 obtain⟨hb1,hb2,hG⟩:=boxes2 w 34 34 cse.toArray csx.toArray;have hreQ:RdEQ w (fun b=>b<w.heap.size) e cse:=RdE.toQ (fun _ h=>h) _ _ hre;have HP:=Lib.hid (fun w' (g:Grew w w')=>parts_q he 2 (Q:=fun b=>b<w.heap.size) (fun b hb=>Nat.lt_of_lt_of_le hb g.size) (hreQ.grewQ (fun _ h=>h) g));have HC:=Lib.hid (And.intro hwt (And.intro hot (And.intro hrx (And.intro he hx))));have HLe:=Lib.hid (rdE_len hre);have HLx:=Lib.hid (rdE_len hrx);obtain⟨r,hr⟩:∃r,notE e x=r:=⟨_,rfl⟩;rw[hr];have HR:=Lib.hid hr;clear he hx hwt hot hre hrx hreQ hr;go_enter Tryz.func87,Tryz.ntmps87;go_upto_region 1 with fail;change Code.wp _ _ _ _ ((w.alloc (.cells cse.toArray 34)).alloc (.cells csx.toArray 34));generalize (w.alloc (.cells cse.toArray 34)).alloc (.cells csx.toArray 34)=w1 at*;have HB1:=Lib.hid (show ∀w',Grew w1 w'→w'.rangeAt w.heap.size 0 cse from fun w' g=>(hb1.grew g).rangeN 0 _ (by simp));have HG0:=Lib.hid hG;have HB2:=Lib.hid hb2;clear hb1 hb2 hG;go_upto_region 2 with(first|((with_reducible refine at_load 34 (.tmp 2) rfl ?_);refine wpList_load_mid rfl 34 (.tmp 2) rfl (w.heap.size) 0 rfl cse _ (HB1.out _ (Grew.refl _)) Tryz.underlying34 rfl (by rw[HLe.out];exact infoX) ?_)|(go_at_call 85;(with_reducible refine(HP.out _ HG0.out).mono ?_);rintro e3 wa ⟨ca,cb,rfl,hca,hcb,ka⟩;obtain⟨y1,y2,y3⟩:=boxes2 wa 34 34 (numL 0 0).toArray (numL 0 0).toArray;have hla:=hca.len;have hlb:=hcb.len;have hzs:=Nat.le_trans HG0.out.size ka.size;have hoa:=hca.one_ (fun b hb=>Nat.lt_of_lt_of_le hb hzs);have hob:=hcb.one_ (fun b hb=>Nat.lt_of_lt_of_le hb hzs))|((with_reducible refine at_store 34 (.tmp 5) (.tmp 11) rfl ?_);refine stN 34 (.tmp 5) (.tmp 11) (wa.heap.size) ca (numL 0 0) 34 (by rw[hla];exact infoX) (by rw[hla];rfl) hoa rfl rfl rfl rfl y1 ?_;intro wb hb5 k5 d5;have hb5':=y2.keep k5 (by omega))|((with_reducible refine at_store 34 (.tmp 6) (.tmp 12) rfl ?_);refine stN 34 (.tmp 6) (.tmp 12) (wa.heap.size+1) cb (numL 0 0) 34 (by rw[hlb];exact infoX) (by rw[hlb];rfl) hob rfl rfl rfl rfl hb5' ?_;intro wc hb6 k6 d6;have hb56:=hb5.keep k6 (by omega)));have hac:Grew wa wc:=Keeps.then_ (Keeps.then_ y3 k5 fun i hi e=>by omega) k6 fun i hi e=>by omega
 have h0c:Grew w wc:=(HG0.out.trans ka).trans hac;have H0:=Lib.hid h0c;have HBx:=Lib.hid (HB2.out.grew (ka.trans hac));have HBa:=Lib.hid hb56;have HBb:=Lib.hid hb6;have hqz:∀w',Grew w w'→∀b,b<w.heap.size→b<w'.heap.size:=fun w' g b hb=>Nat.lt_of_lt_of_le hb g.size
 have hca':RdE wc wc.heap.size (pt1 e 2) ca:=RdEQ.toB (hqz _ h0c) _ _ (hca.grewQ (fun b hb=>Nat.lt_of_lt_of_le hb hzs) hac);have hcb':RdE wc wc.heap.size (pt2 e 2) cb:=RdEQ.toB (hqz _ h0c) _ _ (hcb.grewQ (fun b hb=>Nat.lt_of_lt_of_le hb hzs) hac);have HI2:=Lib.hid (fun w' (g:Grew wc w')=>ris_any (pt2 e 2) 0 cb w' _ (hcb'.grew g));have HI1:=Lib.hid (fun w' (g:Grew wc w')=>ris_any (pt1 e 2) 0 ca w' _ (hca'.grew g));have HS1:=Lib.hid (fun w' (g:Grew wc w')=>same_any HC.out.2.2.2.2 (HC.out.2.2.2.1.pt1 2) (HC.out.1.grew (h0c.trans g)) (HC.out.2.1.keep (h0c.trans g) (fun h=>h)) (HC.out.2.2.1.grew (h0c.trans g)) (hca'.grew g));have HS2:=Lib.hid (fun w' (g:Grew wc w')=>same_any HC.out.2.2.2.2 (HC.out.2.2.2.1.pt2 2) (HC.out.1.grew (h0c.trans g)) (HC.out.2.1.keep (h0c.trans g) (fun h=>h)) (HC.out.2.2.1.grew (h0c.trans g)) (hcb'.grew g));have HLa:=Lib.hid hla;have HLb:=Lib.hid hlb;have hr:=HR.out;unfold notE at hr;obtain⟨o,ho⟩:∃o,opE e 2=o:=⟨_,rfl⟩;obtain⟨q2,hq2⟩:∃o,isE (pt2 e 2) 0=o:=⟨_,rfl⟩;obtain⟨q1,hq1⟩:∃o,isE (pt1 e 2) 0=o:=⟨_,rfl⟩;obtain⟨s1,hs1⟩:∃o,sameE x (pt1 e 2)=o:=⟨_,rfl⟩;obtain⟨s2,hs2⟩:∃o,sameE x (pt2 e 2)=o:=⟨_,rfl⟩;rw[ho,hq2,hq1,hs1,hs2]at hr;rw[hq2]at HI2;rw[hq1]at HI1;rw[hs1]at HS1;rw[hs2]at HS2;rw[ho];clear HP HR HC HB1 HB2 hca hcb hca' hcb' hla hlb hoa hob hb56 hb6 hb5 hb5' y1 y2 y3 k5 k6 d5 d6 ka hac h0c hzs hqz ho hq2 hq1 hs1 hs2;generalize wa.heap.size=z at*;rcases o with _|_
 ·refine region_seqG [.bool false,.bool false,undef,undef,undef,undef,undef,undef,undef,undef,undef,undef,undef,undef,undef,undef,undef,undef,.bool false,.bool false] _ (by kernel_rfl) (by kernel_rfl) rfl ?sH ?sT
  case sH=>
   simp only[List.toList_toArray,List.append_eq,List.cons_append,List.nil_append,putAll,Act.put,List.setIfInBounds_toArray,List.set_cons_zero,List.set_cons_succ];refine headG_run (by kernel_rfl) (fun w' hg=>?_) ?_
   ·go_simp;exact Grew.refl _
   refine headG_run (by kernel_rfl) (fun w' hg=>?_) ?_
   ·go_simp;exact Grew.refl _
   refine headG_skip (by kernel_rfl) (by kernel_rfl) ?_;refine headG_skip (by kernel_rfl) (by kernel_rfl) ?_;refine headG_skip (by kernel_rfl) (by kernel_rfl) ?_;refine headG_skip (by kernel_rfl) (by kernel_rfl) ?_;refine headG_skip (by kernel_rfl) (by kernel_rfl) ?_;refine headG_skip (by kernel_rfl) (by kernel_rfl) ?_;refine headG_skip (by kernel_rfl) (by kernel_rfl) ?_;refine headG_skip (by kernel_rfl) (by kernel_rfl) ?_;refine headG_skip (by kernel_rfl) (by kernel_rfl) ?_;refine headG_skip (by kernel_rfl) (by kernel_rfl) ?_;refine headG_skip (by kernel_rfl) (by kernel_rfl) ?_;refine headG_skip (by kernel_rfl) (by kernel_rfl) ?_;refine headG_skip (by kernel_rfl) (by kernel_rfl) ?_;refine headG_skip (by kernel_rfl) (by kernel_rfl) ?_;refine headG_skip (by kernel_rfl) (by kernel_rfl) ?_;refine headG_skip (by kernel_rfl) (by kernel_rfl) ?_;refine headG_run (by kernel_rfl) (fun w' hg=>?_) ?_
   ·go_simp;exact Grew.refl _
   refine headG_run (by kernel_rfl) (fun w' hg=>?_) ?_
   ·go_simp;exact Grew.refl _
   exact headG_nil
  case sT=>
   intro w9 hg9;simp only[List.toList_toArray,List.append_eq,List.cons_append,List.nil_append,putAll,Act.put,List.setIfInBounds_toArray,List.set_cons_zero,List.set_cons_succ];go_wp2_with fail;go_ret;exact⟨by rw[←hr];simp,H0.out.trans hg9⟩
 rcases q2 with _|_
 ·rcases q1 with _|_
  ·refine region_seqG [.bool true,.bool true,.agg cb.toArray,.bool false,.bool false,undef,undef,undef,.bool false,.bool false,.agg ca.toArray,.bool false,.bool false,undef,undef,undef,.bool false,.bool false,.bool false,.bool false] _ (by kernel_rfl) (by kernel_rfl) rfl ?sH ?sT
   case sH=>
    simp only[List.toList_toArray,List.append_eq,List.cons_append,List.nil_append,putAll,Act.put,List.setIfInBounds_toArray,List.set_cons_zero,List.set_cons_succ];refine headG_run (by kernel_rfl) (fun w' hg=>?_) ?_
    ·go_simp;exact Grew.refl _
    refine headG_run (by kernel_rfl) (fun w' hg=>?_) ?_
    ·go_simp;exact Grew.refl _
    refine headG_run (by kernel_rfl) (fun w' hg=>?_) ?_
    ·refine wp_load_mid 34 (.tmp 6) rfl (z+1) 0 rfl cb _ ((HBb.out.grew hg).rangeN 0 _ (by simp)) Tryz.underlying34 rfl (by rw[HLb.out];exact infoX) ?_;exact⟨rfl,Grew.refl _⟩
    refine headG_run (by kernel_rfl) (fun w' hg=>?_) ?_
    ·go_simp;(with_reducible refine(HI2.out _ hg).mono ?_);rintro e wq ⟨rfl,kq⟩;exact⟨rfl,kq⟩
    refine headG_run (by kernel_rfl) (fun w' hg=>?_) ?_
    ·go_simp;exact Grew.refl _
    refine headG_skip (by kernel_rfl) (by kernel_rfl) ?_;refine headG_skip (by kernel_rfl) (by kernel_rfl) ?_;refine headG_skip (by kernel_rfl) (by kernel_rfl) ?_;refine headG_run (by kernel_rfl) (fun w' hg=>?_) ?_
    ·go_simp;exact Grew.refl _
    refine headG_run (by kernel_rfl) (fun w' hg=>?_) ?_
    ·go_simp;exact Grew.refl _
    refine headG_run (by kernel_rfl) (fun w' hg=>?_) ?_
    ·refine wp_load_mid 34 (.tmp 5) rfl (z) 0 rfl ca _ ((HBa.out.grew hg).rangeN 0 _ (by simp)) Tryz.underlying34 rfl (by rw[HLa.out];exact infoX) ?_;exact⟨rfl,Grew.refl _⟩
    refine headG_run (by kernel_rfl) (fun w' hg=>?_) ?_
    ·go_simp;(with_reducible refine(HI1.out _ hg).mono ?_);rintro e wq ⟨rfl,kq⟩;exact⟨rfl,kq⟩
    refine headG_run (by kernel_rfl) (fun w' hg=>?_) ?_
    ·go_simp;exact Grew.refl _
    refine headG_skip (by kernel_rfl) (by kernel_rfl) ?_;refine headG_skip (by kernel_rfl) (by kernel_rfl) ?_;refine headG_skip (by kernel_rfl) (by kernel_rfl) ?_;refine headG_run (by kernel_rfl) (fun w' hg=>?_) ?_
    ·go_simp;exact Grew.refl _
    refine headG_run (by kernel_rfl) (fun w' hg=>?_) ?_
    ·go_simp;exact Grew.refl _
    refine headG_run (by kernel_rfl) (fun w' hg=>?_) ?_
    ·go_simp;exact Grew.refl _
    refine headG_run (by kernel_rfl) (fun w' hg=>?_) ?_
    ·go_simp;exact Grew.refl _
    exact headG_nil
   case sT=>
    intro w9 hg9;simp only[List.toList_toArray,List.append_eq,List.cons_append,List.nil_append,putAll,Act.put,List.setIfInBounds_toArray,List.set_cons_zero,List.set_cons_succ];go_wp2_with fail;go_ret;exact⟨by rw[←hr];simp,H0.out.trans hg9⟩
  refine region_seqG [.bool true,.bool true,.agg cb.toArray,.bool false,.bool false,undef,undef,undef,.bool false,.bool false,.agg ca.toArray,.bool true,.bool true,.agg csx.toArray,.agg cb.toArray,.bool s2,.bool s2,.bool s2,.bool s2,.bool s2] _ (by kernel_rfl) (by kernel_rfl) rfl ?sH ?sT
  case sH=>
   simp only[List.toList_toArray,List.append_eq,List.cons_append,List.nil_append,putAll,Act.put,List.setIfInBounds_toArray,List.set_cons_zero,List.set_cons_succ];refine headG_run (by kernel_rfl) (fun w' hg=>?_) ?_
   ·go_simp;exact Grew.refl _
   refine headG_run (by kernel_rfl) (fun w' hg=>?_) ?_
   ·go_simp;exact Grew.refl _
   refine headG_run (by kernel_rfl) (fun w' hg=>?_) ?_
   ·refine wp_load_mid 34 (.tmp 6) rfl (z+1) 0 rfl cb _ ((HBb.out.grew hg).rangeN 0 _ (by simp)) Tryz.underlying34 rfl (by rw[HLb.out];exact infoX) ?_;exact⟨rfl,Grew.refl _⟩
   refine headG_run (by kernel_rfl) (fun w' hg=>?_) ?_
   ·go_simp;(with_reducible refine(HI2.out _ hg).mono ?_);rintro e wq ⟨rfl,kq⟩;exact⟨rfl,kq⟩
   refine headG_run (by kernel_rfl) (fun w' hg=>?_) ?_
   ·go_simp;exact Grew.refl _
   refine headG_skip (by kernel_rfl) (by kernel_rfl) ?_;refine headG_skip (by kernel_rfl) (by kernel_rfl) ?_;refine headG_skip (by kernel_rfl) (by kernel_rfl) ?_;refine headG_run (by kernel_rfl) (fun w' hg=>?_) ?_
   ·go_simp;exact Grew.refl _
   refine headG_run (by kernel_rfl) (fun w' hg=>?_) ?_
   ·go_simp;exact Grew.refl _
   refine headG_run (by kernel_rfl) (fun w' hg=>?_) ?_
   ·refine wp_load_mid 34 (.tmp 5) rfl (z) 0 rfl ca _ ((HBa.out.grew hg).rangeN 0 _ (by simp)) Tryz.underlying34 rfl (by rw[HLa.out];exact infoX) ?_;exact⟨rfl,Grew.refl _⟩
   refine headG_run (by kernel_rfl) (fun w' hg=>?_) ?_
   ·go_simp;(with_reducible refine(HI1.out _ hg).mono ?_);rintro e wq ⟨rfl,kq⟩;exact⟨rfl,kq⟩
   refine headG_run (by kernel_rfl) (fun w' hg=>?_) ?_
   ·go_simp;exact Grew.refl _
   refine headG_run (by kernel_rfl) (fun w' hg=>?_) ?_
   ·refine wp_load_mid 34 (.tmp 3) rfl (w.heap.size+1) 0 rfl csx _ ((HBx.out.grew hg).rangeN 0 _ (by simp)) Tryz.underlying34 rfl (by rw[HLx.out];exact infoX) ?_;exact⟨rfl,Grew.refl _⟩
   refine headG_run (by kernel_rfl) (fun w' hg=>?_) ?_
   ·refine wp_load_mid 34 (.tmp 6) rfl (z+1) 0 rfl cb _ ((HBb.out.grew hg).rangeN 0 _ (by simp)) Tryz.underlying34 rfl (by rw[HLb.out];exact infoX) ?_;exact⟨rfl,Grew.refl _⟩
   refine headG_run (by kernel_rfl) (fun w' hg=>?_) ?_
   ·go_simp;(with_reducible refine(HS2.out _ hg).mono ?_);rintro e wq ⟨rfl,kq⟩;exact⟨rfl,kq⟩
   refine headG_run (by kernel_rfl) (fun w' hg=>?_) ?_
   ·go_simp;exact Grew.refl _
   refine headG_run (by kernel_rfl) (fun w' hg=>?_) ?_
   ·go_simp;exact Grew.refl _
   refine headG_run (by kernel_rfl) (fun w' hg=>?_) ?_
   ·go_simp;exact Grew.refl _
   refine headG_run (by kernel_rfl) (fun w' hg=>?_) ?_
   ·go_simp;exact Grew.refl _
   exact headG_nil
  case sT=>
   intro w9 hg9;simp only[List.toList_toArray,List.append_eq,List.cons_append,List.nil_append,putAll,Act.put,List.setIfInBounds_toArray,List.set_cons_zero,List.set_cons_succ];go_wp2_with fail;go_ret;exact⟨by rw[←hr];simp,H0.out.trans hg9⟩
 rcases s1 with _|_
 ·rcases q1 with _|_
  ·refine region_seqG [.bool true,.bool true,.agg cb.toArray,.bool true,.bool true,.agg csx.toArray,.agg ca.toArray,.bool false,.bool false,.bool false,.agg ca.toArray,.bool false,.bool false,undef,undef,undef,.bool false,.bool false,.bool false,.bool false] _ (by kernel_rfl) (by kernel_rfl) rfl ?sH ?sT
   case sH=>
    simp only[List.toList_toArray,List.append_eq,List.cons_append,List.nil_append,putAll,Act.put,List.setIfInBounds_toArray,List.set_cons_zero,List.set_cons_succ];refine headG_run (by kernel_rfl) (fun w' hg=>?_) ?_
    ·go_simp;exact Grew.refl _
    refine headG_run (by kernel_rfl) (fun w' hg=>?_) ?_
    ·go_simp;exact Grew.refl _
    refine headG_run (by kernel_rfl) (fun w' hg=>?_) ?_
    ·refine wp_load_mid 34 (.tmp 6) rfl (z+1) 0 rfl cb _ ((HBb.out.grew hg).rangeN 0 _ (by simp)) Tryz.underlying34 rfl (by rw[HLb.out];exact infoX) ?_;exact⟨rfl,Grew.refl _⟩
    refine headG_run (by kernel_rfl) (fun w' hg=>?_) ?_
    ·go_simp;(with_reducible refine(HI2.out _ hg).mono ?_);rintro e wq ⟨rfl,kq⟩;exact⟨rfl,kq⟩
    refine headG_run (by kernel_rfl) (fun w' hg=>?_) ?_
    ·go_simp;exact Grew.refl _
    refine headG_run (by kernel_rfl) (fun w' hg=>?_) ?_
    ·refine wp_load_mid 34 (.tmp 3) rfl (w.heap.size+1) 0 rfl csx _ ((HBx.out.grew hg).rangeN 0 _ (by simp)) Tryz.underlying34 rfl (by rw[HLx.out];exact infoX) ?_;exact⟨rfl,Grew.refl _⟩
    refine headG_run (by kernel_rfl) (fun w' hg=>?_) ?_
    ·refine wp_load_mid 34 (.tmp 5) rfl (z) 0 rfl ca _ ((HBa.out.grew hg).rangeN 0 _ (by simp)) Tryz.underlying34 rfl (by rw[HLa.out];exact infoX) ?_;exact⟨rfl,Grew.refl _⟩
    refine headG_run (by kernel_rfl) (fun w' hg=>?_) ?_
    ·go_simp;(with_reducible refine(HS1.out _ hg).mono ?_);rintro e wq ⟨rfl,kq⟩;exact⟨rfl,kq⟩
    refine headG_run (by kernel_rfl) (fun w' hg=>?_) ?_
    ·go_simp;exact Grew.refl _
    refine headG_run (by kernel_rfl) (fun w' hg=>?_) ?_
    ·go_simp;exact Grew.refl _
    refine headG_run (by kernel_rfl) (fun w' hg=>?_) ?_
    ·refine wp_load_mid 34 (.tmp 5) rfl (z) 0 rfl ca _ ((HBa.out.grew hg).rangeN 0 _ (by simp)) Tryz.underlying34 rfl (by rw[HLa.out];exact infoX) ?_;exact⟨rfl,Grew.refl _⟩
    refine headG_run (by kernel_rfl) (fun w' hg=>?_) ?_
    ·go_simp;(with_reducible refine(HI1.out _ hg).mono ?_);rintro e wq ⟨rfl,kq⟩;exact⟨rfl,kq⟩
    refine headG_run (by kernel_rfl) (fun w' hg=>?_) ?_
    ·go_simp;exact Grew.refl _
    refine headG_skip (by kernel_rfl) (by kernel_rfl) ?_;refine headG_skip (by kernel_rfl) (by kernel_rfl) ?_;refine headG_skip (by kernel_rfl) (by kernel_rfl) ?_;refine headG_run (by kernel_rfl) (fun w' hg=>?_) ?_
    ·go_simp;exact Grew.refl _
    refine headG_run (by kernel_rfl) (fun w' hg=>?_) ?_
    ·go_simp;exact Grew.refl _
    refine headG_run (by kernel_rfl) (fun w' hg=>?_) ?_
    ·go_simp;exact Grew.refl _
    refine headG_run (by kernel_rfl) (fun w' hg=>?_) ?_
    ·go_simp;exact Grew.refl _
    exact headG_nil
   case sT=>
    intro w9 hg9;simp only[List.toList_toArray,List.append_eq,List.cons_append,List.nil_append,putAll,Act.put,List.setIfInBounds_toArray,List.set_cons_zero,List.set_cons_succ];go_wp2_with fail;go_ret;exact⟨by rw[←hr];simp,H0.out.trans hg9⟩
  refine region_seqG [.bool true,.bool true,.agg cb.toArray,.bool true,.bool true,.agg csx.toArray,.agg ca.toArray,.bool false,.bool false,.bool false,.agg ca.toArray,.bool true,.bool true,.agg csx.toArray,.agg cb.toArray,.bool s2,.bool s2,.bool s2,.bool s2,.bool s2] _ (by kernel_rfl) (by kernel_rfl) rfl ?sH ?sT
  case sH=>
   simp only[List.toList_toArray,List.append_eq,List.cons_append,List.nil_append,putAll,Act.put,List.setIfInBounds_toArray,List.set_cons_zero,List.set_cons_succ];refine headG_run (by kernel_rfl) (fun w' hg=>?_) ?_
   ·go_simp;exact Grew.refl _
   refine headG_run (by kernel_rfl) (fun w' hg=>?_) ?_
   ·go_simp;exact Grew.refl _
   refine headG_run (by kernel_rfl) (fun w' hg=>?_) ?_
   ·refine wp_load_mid 34 (.tmp 6) rfl (z+1) 0 rfl cb _ ((HBb.out.grew hg).rangeN 0 _ (by simp)) Tryz.underlying34 rfl (by rw[HLb.out];exact infoX) ?_;exact⟨rfl,Grew.refl _⟩
   refine headG_run (by kernel_rfl) (fun w' hg=>?_) ?_
   ·go_simp;(with_reducible refine(HI2.out _ hg).mono ?_);rintro e wq ⟨rfl,kq⟩;exact⟨rfl,kq⟩
   refine headG_run (by kernel_rfl) (fun w' hg=>?_) ?_
   ·go_simp;exact Grew.refl _
   refine headG_run (by kernel_rfl) (fun w' hg=>?_) ?_
   ·refine wp_load_mid 34 (.tmp 3) rfl (w.heap.size+1) 0 rfl csx _ ((HBx.out.grew hg).rangeN 0 _ (by simp)) Tryz.underlying34 rfl (by rw[HLx.out];exact infoX) ?_;exact⟨rfl,Grew.refl _⟩
   refine headG_run (by kernel_rfl) (fun w' hg=>?_) ?_
   ·refine wp_load_mid 34 (.tmp 5) rfl (z) 0 rfl ca _ ((HBa.out.grew hg).rangeN 0 _ (by simp)) Tryz.underlying34 rfl (by rw[HLa.out];exact infoX) ?_;exact⟨rfl,Grew.refl _⟩
   refine headG_run (by kernel_rfl) (fun w' hg=>?_) ?_
   ·go_simp;(with_reducible refine(HS1.out _ hg).mono ?_);rintro e wq ⟨rfl,kq⟩;exact⟨rfl,kq⟩
   refine headG_run (by kernel_rfl) (fun w' hg=>?_) ?_
   ·go_simp;exact Grew.refl _
   refine headG_run (by kernel_rfl) (fun w' hg=>?_) ?_
   ·go_simp;exact Grew.refl _
   refine headG_run (by kernel_rfl) (fun w' hg=>?_) ?_
   ·refine wp_load_mid 34 (.tmp 5) rfl (z) 0 rfl ca _ ((HBa.out.grew hg).rangeN 0 _ (by simp)) Tryz.underlying34 rfl (by rw[HLa.out];exact infoX) ?_;exact⟨rfl,Grew.refl _⟩
   refine headG_run (by kernel_rfl) (fun w' hg=>?_) ?_
   ·go_simp;(with_reducible refine(HI1.out _ hg).mono ?_);rintro e wq ⟨rfl,kq⟩;exact⟨rfl,kq⟩
   refine headG_run (by kernel_rfl) (fun w' hg=>?_) ?_
   ·go_simp;exact Grew.refl _
   refine headG_run (by kernel_rfl) (fun w' hg=>?_) ?_
   ·refine wp_load_mid 34 (.tmp 3) rfl (w.heap.size+1) 0 rfl csx _ ((HBx.out.grew hg).rangeN 0 _ (by simp)) Tryz.underlying34 rfl (by rw[HLx.out];exact infoX) ?_;exact⟨rfl,Grew.refl _⟩
   refine headG_run (by kernel_rfl) (fun w' hg=>?_) ?_
   ·refine wp_load_mid 34 (.tmp 6) rfl (z+1) 0 rfl cb _ ((HBb.out.grew hg).rangeN 0 _ (by simp)) Tryz.underlying34 rfl (by rw[HLb.out];exact infoX) ?_;exact⟨rfl,Grew.refl _⟩
   refine headG_run (by kernel_rfl) (fun w' hg=>?_) ?_
   ·go_simp;(with_reducible refine(HS2.out _ hg).mono ?_);rintro e wq ⟨rfl,kq⟩;exact⟨rfl,kq⟩
   refine headG_run (by kernel_rfl) (fun w' hg=>?_) ?_
   ·go_simp;exact Grew.refl _
   refine headG_run (by kernel_rfl) (fun w' hg=>?_) ?_
   ·go_simp;exact Grew.refl _
   refine headG_run (by kernel_rfl) (fun w' hg=>?_) ?_
   ·go_simp;exact Grew.refl _
   refine headG_run (by kernel_rfl) (fun w' hg=>?_) ?_
   ·go_simp;exact Grew.refl _
   exact headG_nil
  case sT=>
   intro w9 hg9;simp only[List.toList_toArray,List.append_eq,List.cons_append,List.nil_append,putAll,Act.put,List.setIfInBounds_toArray,List.set_cons_zero,List.set_cons_succ];go_wp2_with fail;go_ret;exact⟨by rw[←hr];simp,H0.out.trans hg9⟩
 refine region_seqG [.bool true,.bool true,.agg cb.toArray,.bool true,.bool true,.agg csx.toArray,.agg ca.toArray,.bool true,.bool true,.bool true,undef,undef,undef,undef,undef,undef,undef,.bool true,.bool true,.bool true] _ (by kernel_rfl) (by kernel_rfl) rfl ?sH ?sT
 case sH=>
  simp only[List.toList_toArray,List.append_eq,List.cons_append,List.nil_append,putAll,Act.put,List.setIfInBounds_toArray,List.set_cons_zero,List.set_cons_succ];refine headG_run (by kernel_rfl) (fun w' hg=>?_) ?_
  ·go_simp;exact Grew.refl _
  refine headG_run (by kernel_rfl) (fun w' hg=>?_) ?_
  ·go_simp;exact Grew.refl _
  refine headG_run (by kernel_rfl) (fun w' hg=>?_) ?_
  ·refine wp_load_mid 34 (.tmp 6) rfl (z+1) 0 rfl cb _ ((HBb.out.grew hg).rangeN 0 _ (by simp)) Tryz.underlying34 rfl (by rw[HLb.out];exact infoX) ?_;exact⟨rfl,Grew.refl _⟩
  refine headG_run (by kernel_rfl) (fun w' hg=>?_) ?_
  ·go_simp;(with_reducible refine(HI2.out _ hg).mono ?_);rintro e wq ⟨rfl,kq⟩;exact⟨rfl,kq⟩
  refine headG_run (by kernel_rfl) (fun w' hg=>?_) ?_
  ·go_simp;exact Grew.refl _
  refine headG_run (by kernel_rfl) (fun w' hg=>?_) ?_
  ·refine wp_load_mid 34 (.tmp 3) rfl (w.heap.size+1) 0 rfl csx _ ((HBx.out.grew hg).rangeN 0 _ (by simp)) Tryz.underlying34 rfl (by rw[HLx.out];exact infoX) ?_;exact⟨rfl,Grew.refl _⟩
  refine headG_run (by kernel_rfl) (fun w' hg=>?_) ?_
  ·refine wp_load_mid 34 (.tmp 5) rfl (z) 0 rfl ca _ ((HBa.out.grew hg).rangeN 0 _ (by simp)) Tryz.underlying34 rfl (by rw[HLa.out];exact infoX) ?_;exact⟨rfl,Grew.refl _⟩
  refine headG_run (by kernel_rfl) (fun w' hg=>?_) ?_
  ·go_simp;(with_reducible refine(HS1.out _ hg).mono ?_);rintro e wq ⟨rfl,kq⟩;exact⟨rfl,kq⟩
  refine headG_run (by kernel_rfl) (fun w' hg=>?_) ?_
  ·go_simp;exact Grew.refl _
  refine headG_run (by kernel_rfl) (fun w' hg=>?_) ?_
  ·go_simp;exact Grew.refl _
  refine headG_skip (by kernel_rfl) (by kernel_rfl) ?_;refine headG_skip (by kernel_rfl) (by kernel_rfl) ?_;refine headG_skip (by kernel_rfl) (by kernel_rfl) ?_;refine headG_skip (by kernel_rfl) (by kernel_rfl) ?_;refine headG_skip (by kernel_rfl) (by kernel_rfl) ?_;refine headG_skip (by kernel_rfl) (by kernel_rfl) ?_;refine headG_skip (by kernel_rfl) (by kernel_rfl) ?_;refine headG_run (by kernel_rfl) (fun w' hg=>?_) ?_
  ·go_simp;exact Grew.refl _
  refine headG_run (by kernel_rfl) (fun w' hg=>?_) ?_
  ·go_simp;exact Grew.refl _
  refine headG_run (by kernel_rfl) (fun w' hg=>?_) ?_
  ·go_simp;exact Grew.refl _
  exact headG_nil
 case sT=>
  intro w9 hg9;simp only[List.toList_toArray,List.append_eq,List.cons_append,List.nil_append,putAll,Act.put,List.setIfInBounds_toArray,List.set_cons_zero,List.set_cons_succ];go_wp2_with fail;go_ret;exact⟨by rw[←hr];simp,H0.out.trans hg9⟩
end Go.Proofs.YtcimmbhdcebehaaGreatDoor
