/- What the card of the law stands on: LivP, LateG. -/
import Derived.Test.YtcimmbhdcebehaaGreatDoorRewriteNumbersP01
import Derived.Test.YtcimmbhdcebehaaGreatDoorRewriteNumbersP38
import Derived.Test.YtcimmbhdcebehaaGreatDoorRewriteNumbersP07
import Derived.Test.YtcimmbhdcebehaaGreatDoorRewriteNumbersP26
set_option maxRecDepth 100000
set_option maxHeartbeats 12800000
set_option linter.unusedVariables false
set_option linter.unusedSimpArgs false
namespace Go.Proofs.YtcimmbhdcebehaaGreatDoor
open Go.RowKit Pl
def nmA:ByteArray:=⟨#[97]⟩
def nmB:ByteArray:=⟨#[98]⟩
theorem txtA:Txt nmA:=⟨fun i h=>by
 have:i=0:=by have:nmA.size=1:=rfl;omega
 subst this;exact(show UInt8.toNat 97<128 by decide),by decide⟩
theorem txtB:Txt nmB:=⟨fun i h=>by
 have:i=0:=by have:nmB.size=1:=rfl;omega
 subst this;exact(show UInt8.toNat 98<128 by decide),by decide⟩
theorem ok_sel {f wd:Nat} {nm:ByteArray} (hf:f<1000) (hw:wd<1000) (h:Txt nm):AllE NodeOk (selE f wd nm):=by
 refine AllE_iff.2 ⟨⟨?_,h,(fun m hm=>nomatch hm),(fun m hm=>nomatch hm),Nat.zero_le _,Nat.zero_le _⟩,fun k hk=>nomatch hk⟩;show I64 1∧I64 f∧I64 wd∧I64 0∧I64 0∧I64 0∧I64 0;unfold I64;omega
theorem ok_numN {x y:Int} (hx:I64 x) (hy:I64 y):AllE NodeOk (numE x y):=by
 have z0:I64 0:=zero64.1;exact AllE_iff.2 ⟨⟨⟨z0,z0,z0,z0,z0,hx,hy⟩,txt_num x y⟩,fun k hk=>nomatch hk⟩
theorem ok_bin {f:Int} {a b:Ex} (hf:0≤f∧f≤3) (ha:AllE NodeOk a) (hb:AllE NodeOk b):AllE NodeOk (binE f a b):=by
 refine AllE_iff.2 ⟨⟨?_,?_⟩,fun k hk=>?_⟩
 ·show I64 3∧I64 f∧I64 0∧I64 0∧I64 0∧I64 0∧I64 0;unfold I64;omega
 ·exact⟨(txt_num 0 0).1,(fun m hm=>nomatch hm),(fun m hm=>nomatch hm),Nat.zero_le _,Nat.zero_le _⟩
 rcases List.mem_cons.1 hk with rfl|hk
 ·exact ha
 obtain rfl:=List.mem_singleton.1 hk;exact hb
theorem sok_sel {f wd:Nat} {nm:ByteArray} (hf:f<1000) (hw:wd<1000) (hn:SelOk nm):SOk (selE f wd nm):=by
 refine AllE_iff.2 ⟨⟨⟨(ok_sel hf hw hn.2.1.2.1).top.1,fun h=>nomatch h⟩,.inr (.inl ⟨rfl,rfl,hn⟩),Nat.zero_le _,Nat.zero_le _⟩,fun k hk=>nomatch hk⟩
theorem sok_bin {f:Int} {a b:Ex} (hf:0≤f∧f≤3) (ha:SOk a) (hb:SOk b):SOk (binE f a b):=by
 refine AllE_iff.2 ⟨⟨⟨?_,fun _=>⟨rfl,hf⟩⟩,.inr (.inr ⟨rfl,a,b,rfl⟩),Nat.zero_le _,Nat.zero_le _⟩,fun k hk=>?_⟩
 ·show I64 3∧I64 f∧I64 0∧I64 0∧I64 0∧I64 0∧I64 0;unfold I64;omega
 rcases List.mem_cons.1 hk with rfl|hk
 ·exact ha
 obtain rfl:=List.mem_singleton.1 hk;exact hb
theorem pr_sel {wd:Nat} {nm:ByteArray} (hn:nm.size≤1000):AllE PrN (selE 0 wd nm):=AllE_iff.2 ⟨.inr (.inl ⟨rfl,rfl,rfl,rfl,hn⟩),fun k hk=>nomatch hk⟩
theorem pr_num {n:Nat} (hn:n<10):AllE PrN (numE n 1):=AllE_iff.2 ⟨.inl ⟨rfl,rfl,n,hn,rfl⟩,fun k hk=>nomatch hk⟩
theorem pr_bin {f:Nat} {a b:Ex} (hf:f<4) (ha:AllE PrN a) (hb:AllE PrN b):AllE PrN (binE f a b):=by
 refine AllE_iff.2 ⟨.inr (.inr ⟨rfl,⟨f,hf,rfl⟩,a,b,rfl⟩),fun k hk=>?_⟩;rcases List.mem_cons.1 hk with rfl|hk
 ·exact ha
 obtain rfl:=List.mem_singleton.1 hk;exact hb
theorem selA:SelOk nmA:=⟨by kernel_rfl,(ok_sel (f:=0) (wd:=0) (by decide) (by decide) txtA).top,by decide,by decide⟩
theorem selB:SelOk nmB:=⟨by kernel_rfl,(ok_sel (f:=0) (wd:=0) (by decide) (by decide) txtB).top,by decide,by decide⟩
def eA:Ex:=selE 0 0 nmA
def eB:Ex:=selE 0 0 nmB
def eM:Ex:=selE 4 3 nmA
theorem okA:AllE NodeOk eA:=ok_sel (by decide) (by decide) txtA
theorem okB':AllE NodeOk eB:=ok_sel (by decide) (by decide) txtB
theorem okM:AllE NodeOk eM:=ok_sel (by decide) (by decide) txtA
theorem sokA:SOk eA:=sok_sel (by decide) (by decide) selA
theorem sokB:SOk eB:=sok_sel (by decide) (by decide) selB
theorem sokM:SOk eM:=sok_sel (by decide) (by decide) selA
theorem f0:(0:Int)≤0∧(0:Int)≤3:=by decide
theorem f1:(0:Int)≤1∧(1:Int)≤3:=by decide
theorem f2:(0:Int)≤2∧(2:Int)≤3:=by decide
theorem i64n {n:Nat} (h:n<100):I64 n:=by unfold I64;omega
abbrev lt1:ByteArray:=⟨#[40,97,43,97,46,109,101,97,110,40,51,41,41,45,97,46,109,101,97,110,40,51,41]⟩
abbrev lt2:ByteArray:=⟨#[40,97,43,98,41,45,98]⟩
abbrev lt3:ByteArray:=⟨#[97,45,97]⟩
abbrev lt4:ByteArray:=⟨#[49,43,50,42,51]⟩
abbrev lu1:ByteArray:=⟨#[97]⟩
abbrev lu2:ByteArray:=⟨#[97,43,98,45,98]⟩
abbrev lu3:ByteArray:=⟨#[97,42,48]⟩
abbrev lu4:ByteArray:=⟨#[55]⟩
theorem s1_eq:simpE (binE 1 (binE 0 eA eM) eM)=eA:=by kernel_rfl
theorem s2_eq:simpE (binE 1 (binE 0 eA eB) eB)=binE 1 (binE 0 eA eB) eB:=by kernel_rfl
theorem s3_eq:simpE (binE 1 eA eA)=binE 2 eA (numE 0 1):=by kernel_rfl
theorem s4_eq:simpE (binE 0 (numE 1 1) (binE 2 (numE 2 1) (numE 3 1)))=numE 7 1:=by kernel_rfl
theorem life1:LifeOk lt1 lu1 (binE 1 (binE 0 eA eM) eM) where
 size:=by decide
 parse:=by kernel_rfl
 small:=by decide
 node:=ok_bin f1 (ok_bin f0 okA okM) okM
 sok:=sok_bin f1 (sok_bin f0 sokA sokM) sokM
 valid:=by kernel_rfl
 node2:=by rw[s1_eq];exact okA
 prn:=by rw[s1_eq];exact pr_sel (by decide)
 valid2:=by rw[s1_eq];kernel_rfl
 len:=by rw[s1_eq];decide
 text:=by rw[s1_eq];kernel_rfl
theorem life2:LifeOk lt2 lu2 (binE 1 (binE 0 eA eB) eB) where
 size:=by decide
 parse:=by kernel_rfl
 small:=by decide
 node:=ok_bin f1 (ok_bin f0 okA okB') okB'
 sok:=sok_bin f1 (sok_bin f0 sokA sokB) sokB
 valid:=by kernel_rfl
 node2:=by rw[s2_eq];exact ok_bin f1 (ok_bin f0 okA okB') okB'
 prn:=by rw[s2_eq];exact pr_bin (f:=1) (by decide) (pr_bin (f:=0) (by decide) (pr_sel (by decide)) (pr_sel (by decide))) (pr_sel (by decide))
 valid2:=by rw[s2_eq];kernel_rfl
 len:=by rw[s2_eq];decide
 text:=by rw[s2_eq];kernel_rfl
theorem life3:LifeOk lt3 lu3 (binE 1 eA eA) where
 size:=by decide
 parse:=by kernel_rfl
 small:=by decide
 node:=ok_bin f1 okA okA
 sok:=sok_bin f1 sokA sokA
 valid:=by kernel_rfl
 node2:=by rw[s3_eq];exact ok_bin f2 okA (ok_numN (i64n (n:=0) (by decide)) (i64n (n:=1) (by decide)))
 prn:=by rw[s3_eq];exact pr_bin (f:=2) (by decide) (pr_sel (by decide)) (pr_num (n:=0) (by decide))
 valid2:=by rw[s3_eq];kernel_rfl
 len:=by rw[s3_eq];decide
 text:=by rw[s3_eq];kernel_rfl
theorem nn (n:Nat) (h:n<100):AllE NodeOk (numE n 1):=ok_numN (i64n h) (i64n (n:=1) (by decide))
theorem sn (n:Nat) (h:n<100):SOk (numE n 1):=sok_num (i64n h) (i64n (n:=1) (by decide))
theorem life4:LifeOk lt4 lu4 (binE 0 (numE 1 1) (binE 2 (numE 2 1) (numE 3 1))) where
 size:=by decide
 parse:=by kernel_rfl
 small:=by decide
 node:=ok_bin f0 (nn 1 (by decide)) (ok_bin f2 (nn 2 (by decide)) (nn 3 (by decide)))
 sok:=sok_bin f0 (sn 1 (by decide)) (sok_bin f2 (sn 2 (by decide)) (sn 3 (by decide)))
 valid:=by kernel_rfl
 node2:=by rw[s4_eq];exact nn 7 (by decide)
 prn:=by rw[s4_eq];exact pr_num (n:=7) (by decide)
 valid2:=by rw[s4_eq];kernel_rfl
 len:=by rw[s4_eq];decide
 text:=by rw[s4_eq];kernel_rfl
theorem lives26_any (w:World) (ht:PTab w):Calls Tryz.prog 16 #[] w fun e' w'=>e'= .returned (.bool true)∧Grew w w':=by
 have H1:=Lib.hid (fun w' (g:Grew w w')=>becomes_any life1 w' ⟨ht.1.grew g,ht.2.1.keep g (fun h=>h),ht.2.2.keep g (fun h=>h)⟩);have H2:=Lib.hid (fun w' (g:Grew w w')=>becomes_any life2 w' ⟨ht.1.grew g,ht.2.1.keep g (fun h=>h),ht.2.2.keep g (fun h=>h)⟩);have H3:=Lib.hid (fun w' (g:Grew w w')=>becomes_any life3 w' ⟨ht.1.grew g,ht.2.1.keep g (fun h=>h),ht.2.2.keep g (fun h=>h)⟩);have H4:=Lib.hid (fun w' (g:Grew w w')=>becomes_any life4 w' ⟨ht.1.grew g,ht.2.1.keep g (fun h=>h),ht.2.2.keep g (fun h=>h)⟩);clear ht;go_enter Tryz.func16,Tryz.ntmps16;go_upto_region 1 with fail;refine region_seqG [.bool true,.bool true,.bool true,.bool true,.bool true,.bool true,.bool true,.bool true,.bool true,.bool true,.bool true] _ (by kernel_rfl) (by kernel_rfl) rfl ?sH ?sT
 case sH=>
  simp only[List.toList_toArray,List.append_eq,List.cons_append,List.nil_append,putAll,Act.put,List.setIfInBounds_toArray,List.set_cons_zero,List.set_cons_succ];refine headG_run (by kernel_rfl) (fun w' hg=>?_) ?_
  ·go_simp;(with_reducible refine((H1.out _ hg:Calls _ _ _ _ _)).mono ?_);rintro e wq ⟨rfl,kq⟩;exact⟨rfl,kq⟩
  refine headG_run (by kernel_rfl) (fun w' hg=>?_) ?_
  ·go_simp;exact Grew.refl _
  refine headG_run (by kernel_rfl) (fun w' hg=>?_) ?_
  ·go_simp;(with_reducible refine((H2.out _ hg:Calls _ _ _ _ _)).mono ?_);rintro e wq ⟨rfl,kq⟩;exact⟨rfl,kq⟩
  refine headG_run (by kernel_rfl) (fun w' hg=>?_) ?_
  ·go_simp;exact Grew.refl _
  refine headG_run (by kernel_rfl) (fun w' hg=>?_) ?_
  ·go_simp;exact Grew.refl _
  refine headG_run (by kernel_rfl) (fun w' hg=>?_) ?_
  ·go_simp;(with_reducible refine((H3.out _ hg:Calls _ _ _ _ _)).mono ?_);rintro e wq ⟨rfl,kq⟩;exact⟨rfl,kq⟩
  refine headG_run (by kernel_rfl) (fun w' hg=>?_) ?_
  ·go_simp;exact Grew.refl _
  refine headG_run (by kernel_rfl) (fun w' hg=>?_) ?_
  ·go_simp;exact Grew.refl _
  refine headG_run (by kernel_rfl) (fun w' hg=>?_) ?_
  ·go_simp;(with_reducible refine((H4.out _ hg:Calls _ _ _ _ _)).mono ?_);rintro e wq ⟨rfl,kq⟩;exact⟨rfl,kq⟩
  refine headG_run (by kernel_rfl) (fun w' hg=>?_) ?_
  ·go_simp;exact Grew.refl _
  refine headG_run (by kernel_rfl) (fun w' hg=>?_) ?_
  ·go_simp;exact Grew.refl _
  exact headG_nil
 case sT=>
  intro w9 hg9;simp only[List.toList_toArray,List.append_eq,List.cons_append,List.nil_append,putAll,Act.put,List.setIfInBounds_toArray,List.set_cons_zero,List.set_cons_succ];go_wp2_with fail;go_ret;exact⟨rfl,hg9⟩
end Go.Proofs.YtcimmbhdcebehaaGreatDoor
namespace Go.Proofs.YtcimmbhdcebehaaGreatDoor
open Go.RowKit
section
variable {P:Program} {md:Region.Mode} {ops:Array Oper} {Q:Exit→Act→World→Prop} {Gs:List (Nat×(World→Prop))}
theorem take_rowG (mid:List Nat) (s:Nat) (A:World→Prop) {i:Nat} {oi:Oper} {fuel:Nat} {listed:Array Bool} {a:Act} {w:World} (hi:ops[i]? =some oi)
  (hs:Region.noSelect ops=true) (hf:Region.free md ops listed i=true) (hr:(Region.ready md ops listed).contains i=true) (hcl:ClosedL md ops listed) (hK:Known Gs listed w) (hne':(Gs.map (·.1)).contains i=false)
  (k:Nat) (hm':Gs[k]? =some (s,A)) (hw:pathB md ops (s::(mid++[i]))=true) (ty:TypeId) (x:Operand) (ho:oi.op= .load ty x) (b o:Nat) (hx:a.eval x= .pointer (some ⟨b,o,none⟩)) (cs:List Value) (d:TypeDesc) (hS:∀w,A w→w.rangeAt b o cs)
  (hu:P.underlying ty=some d) (hd:d.isRow=true) (hin:(P.info? ty).map (·.size)=some cs.length)
  (hQ:∀c a w,Q (.panic c) (a.put oi.dst (.agg cs.toArray)) w→Q (.panic c) a w) (hgd:Region.wanted oi (yielded ops a.tmps)=true)
  (h:ClosedL md ops (listed.setIfInBounds i true)→Known Gs (listed.setIfInBounds i true) w→wpAnyD P md ops Q Gs fuel (listed.setIfInBounds i true) (a.put oi.dst (.agg cs.toArray)) w):wpAnyD P md ops Q Gs (fuel+1) listed a w:=by
 have hr':i∈Region.ready md ops listed:=by simpa using hr
 have hne:=not_store hne';refine wpAnyD_first hi (Region.noSelect_spec hs) hQ hne fuel listed a w hcl (Region.free_spec hi hf) hr' (.inl ⟨hgd,fun w' ⟨l,h1,h2,h3⟩=>?_⟩) hK (h (hcl.set hr') ((Known.set hne).2 hK));have hA:=h3 _ (List.mem_of_getElem? hm') (h1.path (getD_both h2) mid s hw);unfold execOp;simp only[ho,hx,Instr.loadAt,Instr.sureAddr,Sem.run_bind,Sem.run_pure,Result.andThen_ok,run_loadVar_mid w' b o ty cs d (hS w' hA) hu hd hin]
theorem one_nextG {i:Nat} {oi:Oper} {fuel:Nat} {listed:Array Bool} {a:Act} {w:World} (hcl:ClosedL md ops listed) (hr:Region.ready md ops listed=[i]) (hi:ops[i]? =some oi) (hgd:Region.wanted oi (yielded ops a.tmps)=true)
  (h:∀K:Act→World→Prop,(∀a' w',Known Gs (listed.setIfInBounds i true) w'→(ClosedL md ops (listed.setIfInBounds i true)→Known Gs (listed.setIfInBounds i true) w'→wpAnyD P md ops Q Gs fuel (listed.setIfInBounds i true) a' w')→K a' w')→oi.wp P a w K Q):wpAnyD P md ops Q Gs (fuel+1) listed a w:=by
 refine⟨(fun h0=>by rw[hr]at h0;cases h0),fun j hj=>?_⟩;have hj':=hj;rw[hr]at hj;have:j=i:=by simpa using hj
 subst this;unfold wpOp;simp only[hi,hgd,if_true];exact .inl (h _ fun a' w' h1 h2=>⟨h1,h2 (hcl.set hj') h1⟩)
end
end Go.Proofs.YtcimmbhdcebehaaGreatDoor
