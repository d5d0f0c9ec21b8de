/- What the card of the law stands on: PEq2, Wr1, Wr2. -/
import Derived.Test.YtcimmbhdcebehaaGreatDoorRewriteNumbersP01
import Derived.Test.YtcimmbhdcebehaaGreatDoorRewriteNumbersP21
import Derived.Test.YtcimmbhdcebehaaGreatDoorRewriteNumbersP04
import Derived.Test.YtcimmbhdcebehaaGreatDoorRewriteNumbersP07
import Derived.Test.YtcimmbhdcebehaaGreatDoorRewriteNumbersP06
import Derived.Test.YtcimmbhdcebehaaGreatDoorRewriteNumbersP09
import Derived.Test.YtcimmbhdcebehaaGreatDoorRewriteNumbersP20
set_option maxRecDepth 100000
set_option maxHeartbeats 12800000
set_option linter.unusedVariables false
set_option linter.unusedSimpArgs false
namespace Go.Proofs.YtcimmbhdcebehaaGreatDoor
open Go.RowKit Pl
theorem eqE_def (a b:Ex):eqE a b=(decide (a.kind=b.kind∧a.fn=b.fn∧a.window=b.window∧a.offset=b.offset∧a.k=b.k∧a.num=b.num∧a.den=b.den∧a.name=b.name∧a.ms=b.ms∧a.bys=b.bys)&&eqKs a.kids b.kids):=by
 cases a;cases b;rw[eqE];rfl
theorem eqKs_false {ls rs:List Ex} {j:Nat} {a b:Ex} (ha:ls[j]? =some a) (hb:rs[j]? =some b) (h:eqE a b=false):eqKs ls rs=false:=by
 induction ls generalizing rs j with
 |nil=>cases ha
 |cons x xs ih=>
  cases rs with
  |nil=>cases hb
  |cons y ys=>
   rw[eqKs];cases j with
   |zero=>
    obtain rfl:x=a:=by simpa using ha
    obtain rfl:y=b:=by simpa using hb
    rw[h];rfl
   |succ j=>rw[ih (by simpa using ha) (by simpa using hb)];simp
theorem eqKs_len {ls rs:List Ex} (h:ls.length≠rs.length):eqKs ls rs=false:=by
 induction ls generalizing rs with
 |nil=>cases rs with
  |nil=>exact absurd rfl h
  |cons y ys=>simp[eqKs]
 |cons x xs ih=>cases rs with
  |nil=>simp[eqKs]
  |cons y ys=>rw[eqKs,ih (by simpa using h)];simp
theorem eqKs_true {ls rs:List Ex} (hl:ls.length=rs.length) (h:∀(j:Nat) (a b:Ex),ls[j]? =some a→rs[j]? =some b→eqE a b=true):eqKs ls rs=true:=by
 induction ls generalizing rs with
 |nil=>cases rs with
  |nil=>rw[eqKs]
  |cons y ys=>cases hl
 |cons x xs ih=>cases rs with
  |nil=>cases hl
  |cons y ys=>
   rw[eqKs,h 0 x y rfl rfl,ih (by simpa using hl) fun j a b ha hb=>h (j+1) a b (by simpa using ha) (by simpa using hb)];rfl
theorem rdE_len {w:World} {B:Nat} {t:Ex} {cs:List Value} (h:RdE w B t cs):cs.length=11:=by
 obtain⟨a,b,c,rfl, -⟩:=h.open_;rfl
theorem eqF_any (ls rs:List Ex) (hIH:∀a∈ls,∀b∈rs,∀(w:World) (cs1 cs2:List Value),RdE w w.heap.size a cs1→RdE w w.heap.size b cs2→Calls Tryz.prog 9 #[.agg cs1.toArray,.agg cs2.toArray] w fun e' w'=>e'= .returned (.bool (eqE a b))∧Grew w w')
  (hl1:ls.length≤1000000) (hl2:rs.length≤1000000) (v u:Value) (w:World) (h:RdT w w.heap.size v ls) (k:RdT w w.heap.size u rs):
  Calls Tryz.prog 31 #[v,u,.func (.func 9) #[] #[]] w fun e' w'=>e'= .returned (.bool (eqKs ls rs))∧Grew w w':=by
 obtain⟨A1,n,k1,rfl,hn,hc1⟩:=h.slice;obtain⟨A2,n2,k2,rfl,hn2,hc2⟩:=k.slice;have HH:=Lib.hid h;have HK:=Lib.hid k;have HN:=Lib.hid (And.intro hn hn2);have HI:=Lib.hid hIH;have hb1:n≤1000000:=by omega
 have hb2:n2≤1000000:=by omega
 clear h k hn hn2 hIH hl1 hl2;by_cases hne:n=n2
 ·subst hne;have t0:((n:Int)==(n:Int))=true:=by simp
  have t0':((n:Int) !=(n:Int))=false:=by simp
  go_enter Tryz.func31,Tryz.ntmps31;go_wp2_with fail;go_loopw [7,8,9,17] (fun _ _ _ i wr=>∃(j:Nat),j≤n∧i= .int .i64 (j:Nat)∧(∀i a b,i<j→ls[i]? =some a→rs[i]? =some b→eqE a b=true)∧Grew w wr) (fun _ _ _ i _=>n-(intOf i).toNat)
  case atStart=>exact⟨0,by omega,rfl,fun i a b h=>absurd h (by omega),Grew.refl _⟩
  case round=>
   obtain⟨j,hj,rfl,htk,hGr⟩:=hrel;have HTK:=Lib.hid htk;clear htk;by_cases hlt:j<n
   ·obtain⟨a,ha⟩:∃a,ls[j]? =some a:=⟨_,List.getElem?_eq_getElem (by have:=HN.out;omega)⟩;obtain⟨b,hb⟩:∃b,rs[j]? =some b:=⟨_,List.getElem?_eq_getElem (by have:=HN.out;omega)⟩;obtain⟨x1,y1,cs1,rfl, -,hr1,he1⟩:=(HH.out.grew hGr).at_ ha;obtain⟨x2,y2,cs2,rfl,hx2,hr2,he2⟩:=(HK.out.grew hGr).at_ hb;have h1l:=rdE_len he1;have h2l:=rdE_len he2;have h1o:=cells11_one (RdE.toQ (Q:=fun _=>True) (fun _ _=>trivial) a cs1 he1);have h2o:=cells11_one (RdE.toQ (Q:=fun _=>True) (fun _ _=>trivial) b cs2 he2);have HL:=Lib.hid (And.intro h1l h2l);have HR:=Lib.hid (show ∀w',Grew wr w'→w'.rangeAt x2 (y2+j*11) cs2 from fun w' g=>rangeAt_keep hr2 hx2 g (fun h=>h));have HE:=Lib.hid (fun w' (g:Grew wr w')=>HI.out a (List.mem_of_getElem? ha) b (List.mem_of_getElem? hb) w' cs1 cs2 (he1.grew g) (he2.grew g));obtain⟨r,hr⟩:∃r,eqE a b=r:=⟨_,rfl⟩;rw[hr]at HE;have HX:=Lib.hid (And.intro ha (And.intro hb hr));clear ha hb he1 he2 hr;go_upto_region 6 with(first|((with_reducible refine at_load 34 (.tmp 20) rfl ?_);refine wpList_load_mid rfl 34 (.tmp 20) rfl x1 (y1+j*11) rfl cs1 _ hr1 Tryz.underlying34 rfl (by rw[h1l];exact infoX) ?_)|((with_reducible refine at_store 34 (.tmp 8) (.tmp 21) rfl ?_);have hbn:=Box.new wr 34 (numL 0 0).toArray;refine stN 34 (.tmp 8) (.tmp 21) wr.heap.size cs1 (numL 0 0) 34 (by rw[h1l];exact infoX) (by rw[h1l];rfl) h1o rfl rfl rfl rfl hbn ?_;intro w3 hb3 k3 d3;have HG3:=Lib.hid (show Grew wr w3 from Keeps.then_ ((Grew.refl wr).alloc _) k3 (fun i hi e=>by omega));clear k3 d3));have HB3:=Lib.hid hb3;go_upto_region 7 with(first|((with_reducible refine at_load 34 (.tmp 24) rfl ?_);refine wpList_load_mid rfl 34 (.tmp 24) rfl x2 (y2+j*11) rfl cs2 _ (HR.out _ HG3.out) Tryz.underlying34 rfl (by rw[h2l];exact infoX) ?_)|((with_reducible refine at_store 34 (.tmp 9) (.tmp 25) rfl ?_);have hbn:=Box.new w3 34 (numL 0 0).toArray;refine stN 34 (.tmp 9) (.tmp 25) w3.heap.size cs2 (numL 0 0) 34 (by rw[h2l];exact infoX) (by rw[h2l];rfl) h2o rfl rfl rfl rfl hbn ?_;intro w4 hb4 k4 d4;have HG4:=Lib.hid (show Grew w3 w4 from Keeps.then_ ((Grew.refl w3).alloc _) k4 (fun i hi e=>by omega));clear k4 d4));have hb34:=HB3.out.grew HG4.out;rcases r with _|_
    ·have HF:=Lib.hid (show eqKs ls rs=false from eqKs_false HX.out.1 HX.out.2.1 HX.out.2.2);go_wp2_with(first|((with_reducible refine at_load 34 (.tmp 8) rfl ?_);refine ldN 34 Tryz.underlying34 rfl (.tmp 8) wr.heap.size cs1 34 (by rw[HL.out.1];exact infoX) rfl rfl rfl hb34 ?_)|((with_reducible refine at_load 34 (.tmp 9) rfl ?_);refine ldN 34 Tryz.underlying34 rfl (.tmp 9) w3.heap.size cs2 34 (by rw[HL.out.2];exact infoX) rfl rfl rfl hb4 ?_)|(go_at_call 9;(with_reducible refine(HE.out _ (HG3.out.trans HG4.out)).mono ?_);rintro e3 w5 ⟨rfl,k5⟩));go_ret;exact⟨by rw[HF.out];rfl,hGr.trans ((HG3.out.trans HG4.out).trans k5)⟩
    go_wp2_with(first|((with_reducible refine at_load 34 (.tmp 8) rfl ?_);refine ldN 34 Tryz.underlying34 rfl (.tmp 8) wr.heap.size cs1 34 (by rw[HL.out.1];exact infoX) rfl rfl rfl hb34 ?_)|((with_reducible refine at_load 34 (.tmp 9) rfl ?_);refine ldN 34 Tryz.underlying34 rfl (.tmp 9) w3.heap.size cs2 34 (by rw[HL.out.2];exact infoX) rfl rfl rfl hb4 ?_)|(go_at_call 9;(with_reducible refine(HE.out _ (HG3.out.trans HG4.out)).mono ?_);rintro e3 w5 ⟨rfl,k5⟩));go_roundw
    case rel=>exact⟨j+1,by omega,by go_num,fun i a' b' hi ha' hb'=>by
     by_cases hij:i=j
     ·subst hij;rw[HX.out.1]at ha';rw[HX.out.2.1]at hb';obtain rfl:=Option.some.inj ha';obtain rfl:=Option.some.inj hb';exact HX.out.2.2
     exact HTK.out i a' b' (by omega) ha' hb',hGr.trans ((HG3.out.trans HG4.out).trans k5)⟩
    case measure=>simp[intOf];omega
   obtain rfl:j=n:=by omega
   have HF:=Lib.hid (show eqKs ls rs=true from eqKs_true (by have:=HN.out;omega) fun i a b ha hb=>HTK.out i a b (by have:=(List.getElem?_eq_some_iff.1 ha).1;have:=HN.out;omega) ha hb);go_wp2_with fail;go_ret;exact⟨by rw[HF.out];rfl,hGr⟩
 have HF:=Lib.hid (show eqKs ls rs=false from eqKs_len (by have:=HN.out;omega));have t0:((n:Int)==(n2:Int))=false:=by rw[beq_eq_false_iff_ne];omega
 have t0':((n:Int) !=(n2:Int))=true:=by rw[bne,t0];rfl
 clear hne;go_enter Tryz.func31,Tryz.ntmps31;go_wp2_with fail;go_ret;exact⟨by rw[HF.out];rfl,Grew.refl _⟩
def WS (w:World) (base g:Nat) (bs:List Nat):Prop:=base≤g∧base≤w.heap.size∧∃p v,SB w base g p v bs
theorem WS.grew {w w':World} {base g:Nat} {bs:List Nat} (h:WS w base g bs) (k:Grew w w'):WS w' base g bs:=by
 obtain⟨h1,h2,p,v,hb⟩:=h;exact⟨h1,Nat.le_trans h2 k.size,p,v,hb.box.grew k,hb.row.grew k,hb.self⟩
def KB (w w':World):Prop:=∀k t xs,Box w k t xs→t≠48→t≠5→Box w' k t xs
theorem KB.trans {a b c:World} (h:KB a b) (k:KB b c):KB a c:=fun i t xs hb h1 h2=>k i t xs (h i t xs hb h1 h2) h1 h2
theorem KB.grew {w w':World} (h:Grew w w'):KB w w':=fun i t xs hb _ _=>hb.grew h
def WPost (base g:Nat) (bs:List Nat) (w:World) (e:Ending) (w':World):Prop:=(∃u,e= .returned u)∧WS w' base g bs∧Keeps (fun i=>base≤i) w w'∧KB w w'
theorem wrStr_any (w:World) (base g:Nat) (bs:List Nat) (s:ByteArray) (h:WS w base g bs) (hl:bs.length<900000000) (hs:s.size≤1000000):Calls Tryz.prog 48 #[.pointer (some ⟨g,0,none⟩),.string s] w (WPost base g (bs++bl s) w):=by
 obtain⟨h1,h2,p,v,hb⟩:=h;refine(writeString_any g base p v bs s w hb hl hs h2).mono ?_;rintro e w' ⟨he,p',v',hb',hk⟩;have hk':=hb.keepsB h1 hk;exact⟨he,⟨h1,Nat.le_trans h2 hk'.size,p',v',hb'⟩,hk',fun i t xs hbx h1 h2=>Box.keepSB hbx hb hk h1 h2⟩
theorem wrByte_any (w:World) (base g:Nat) (bs:List Nat) (c:Nat) (h:WS w base g bs) (hl:bs.length<900000000):Calls Tryz.prog 69 #[.pointer (some ⟨g,0,none⟩),.int .u8 (c:Nat)] w (WPost base g (bs++[c]) w):=by
 obtain⟨h1,h2,p,v,hb⟩:=h;refine(writeByte_any g base p v bs c w hb hl h2).mono ?_;rintro e w' ⟨rfl,p',v',hb',hk⟩;have hk':=hb.keepsB h1 hk;exact⟨⟨_,rfl⟩,⟨h1,Nat.le_trans h2 hk'.size,p',v',hb'⟩,hk',fun i t xs hbx h1 h2=>Box.keepSB hbx hb hk h1 h2⟩
theorem natural_any (n:Nat) (hn:n<10) (w:World):Calls Tryz.prog 67 #[.agg (fracL (n:Nat) 1).toArray] w fun e w'=>e= .returned (.bool true)∧Grew w w':=by
 have t1:decide ((n:Int)≥0)=true:=by rw[decide_eq_true_iff];omega
 have t2:decide ((n:Int)≤1073741824)=true:=by rw[decide_eq_true_iff];omega
 have hb:=Box.new w 23 (fracL (n:Nat) 1).toArray;have hg:=(Grew.refl w).alloc (.cells (fracL (n:Nat) 1).toArray 23);go_enter Tryz.func67,Tryz.ntmps67;go_upto_region 1 with fail;change Code.wp _ _ _ _ (w.alloc (.cells (fracL (n:Nat) 1).toArray 23));generalize w.alloc (.cells (fracL (n:Nat) 1).toArray 23)=w1 at*;have c0:w1.cell? ⟨w.heap.size,0,none⟩=some (.int .i64 (n:Nat)):=hb.cell 0;have c1:w1.cell? ⟨w.heap.size,1,none⟩=some (.int .i64 1):=hb.cell 1;have HG:=Lib.hid hg;clear hb hg hn;go_wp2_with fail;go_ret;exact⟨rfl,HG.out⟩
theorem wrNum_any (w:World) (base g:Nat) (bs:List Nat) (n:Nat) (hn:n<10) (h:WS w base g bs) (hl:bs.length<900000000):Calls Tryz.prog 43 #[.pointer (some ⟨g,0,none⟩),.agg (fracL (n:Nat) 1).toArray] w (WPost base g (bs++bl (dig n)) w):=by
 have hb:=Box.new w 23 (fracL (n:Nat) 1).toArray;have hg:=(Grew.refl w).alloc (.cells (fracL (n:Nat) 1).toArray 23);have HW:=Lib.hid (h.grew hg);have HB:=Lib.hid h.2.1;have HN:=Lib.hid (natural_any n hn);have HI:=Lib.hid (itoa_any n hn);have HS:=Lib.hid (fun w' (h:WS w' base g bs)=>wrStr_any w' base g bs (dig n) h hl (by show(1:Nat)≤1000000;omega));clear h hl hn;go_enter Tryz.func43,Tryz.ntmps43;go_upto_region 1 with fail;change Code.wp _ _ _ _ (w.alloc (.cells (fracL (n:Nat) 1).toArray 23));generalize w.alloc (.cells (fracL (n:Nat) 1).toArray 23)=w1 at*;have HG:=Lib.hid hg;clear hg;go_upto_region 2 with(first|((with_reducible refine at_load 23 (.tmp 3) rfl ?_);refine ldN 23 Tryz.underlying23 rfl (.tmp 3) (w.heap.size) (fracL (n:Nat) 1) 23 infoF rfl rfl rfl hb ?_)|(go_at_call 67;(with_reducible refine(HN.out w1).mono ?_);rintro e3 w2 ⟨rfl,k2⟩;have HW2:=Lib.hid (HW.out.grew k2);have c0:w2.cell? ⟨w.heap.size,0,none⟩=some (.int .i64 (n:Nat)):=(hb.grew k2).cell 0;have HG2:=Lib.hid (HG.out.trans k2);clear k2));go_wp2_with(first|(go_at_call 68;(with_reducible refine(HI.out w2).mono ?_);rintro e3 w3 ⟨rfl,hw3⟩;obtain rfl:=hw3.symm;clear hw3)|(go_at_call 48;(with_reducible refine(HS.out _ HW2.out).mono ?_);rintro e3 w4 ⟨⟨u,rfl⟩,hws,hk,hkb⟩;have HR:=Lib.hid (And.intro hws (And.intro hk hkb));clear hws hk hkb));refine bodyPost_ret (results_none rfl _ _ _) rfl ?_;exact⟨⟨_,rfl⟩,HR.out.1,Keeps.then_ (Grew.keeps HG2.out) HR.out.2.1 fun i _ h=>h,(KB.grew HG2.out).trans HR.out.2.2⟩
def precE (e:Ex):Nat:=if e.kind=3 then(if e.fn=0∨e.fn=1 then 1 else 2)else 3
theorem prec_any (e:Ex) (cs:List Value) (w:World) (hr:RdE w w.heap.size e cs):Calls Tryz.prog 46 #[.agg cs.toArray] w fun e' w'=>e'= .returned (.int .i64 (precE e:Nat))∧Grew w w':=by
 obtain⟨vm,vb,vk,rfl, -⟩:=hr.open_;have hb:=Box.new w 34 (cells11 e vm vb vk).toArray;have hg:=(Grew.refl w).alloc (.cells (cells11 e vm vb vk).toArray 34);clear hr;go_enter Tryz.func46,Tryz.ntmps46;go_upto_region 1 with fail;change Code.wp _ _ _ _ (w.alloc (.cells (cells11 e vm vb vk).toArray 34));generalize w.alloc (.cells (cells11 e vm vb vk).toArray 34)=w1 at*;have c0:w1.cell? ⟨w.heap.size,0,none⟩=some (.int .i64 e.kind):=hb.cell 0;have c1:w1.cell? ⟨w.heap.size,1,none⟩=some (.int .i64 e.fn):=hb.cell 1;have HG:=Lib.hid hg;clear hb hg;by_cases h3:e.kind=3
 ·have t0:(e.kind==3)=true:=by rw[beq_iff_eq];exact h3
  have t0':(e.kind !=3)=false:=by rw[bne,t0];rfl
  by_cases h0:e.fn=0
  ·have t1:(e.fn==0)=true:=by rw[beq_iff_eq];exact h0
   have HF:=Lib.hid (show precE e=1 from by unfold precE;rw[if_pos h3,if_pos (.inl h0)]);clear h3 h0;go_wp2_with fail;go_ret;exact⟨by rw[HF.out];rfl,HG.out⟩
  have t1:(e.fn==0)=false:=by rw[beq_eq_false_iff_ne];exact h0
  by_cases h1:e.fn=1
  ·have t2:(e.fn==1)=true:=by rw[beq_iff_eq];exact h1
   have HF:=Lib.hid (show precE e=1 from by unfold precE;rw[if_pos h3,if_pos (.inr h1)]);clear h3 h0 h1;go_wp2_with fail;go_ret;exact⟨by rw[HF.out];rfl,HG.out⟩
  have t2:(e.fn==1)=false:=by rw[beq_eq_false_iff_ne];exact h1
  have HF:=Lib.hid (show precE e=2 from by unfold precE;rw[if_pos h3,if_neg (fun h=>h.elim h0 h1)]);clear h3 h0 h1;go_wp2_with fail;go_ret;exact⟨by rw[HF.out];rfl,HG.out⟩
 have t0:(e.kind==3)=false:=by rw[beq_eq_false_iff_ne];exact h3
 have t0':(e.kind !=3)=true:=by rw[bne,t0];rfl
 have HF:=Lib.hid (show precE e=3 from by unfold precE;rw[if_neg h3]);clear h3;go_wp2_with fail;go_ret;exact⟨by rw[HF.out];rfl,HG.out⟩
theorem wrSel_any (e:Ex) (cs:List Value) (w:World) (base g:Nat) (bs:List Nat) (hr:RdE w base e cs) (h:WS w base g bs) (hl:bs.length<900000000) (hn:e.name.size≤1000000) (hm:e.ms=[]) (hf:e.fn=0) (ho:e.offset=0):Calls Tryz.prog 44 #[.pointer (some ⟨g,0,none⟩),.agg cs.toArray] w (WPost base g (bs++bl e.name) w):=by
 obtain⟨vm,vb,vk,rfl,hms, -⟩:=hr.open_;obtain⟨Am,c,hvm,hc, -⟩:=hms;rw[hm]at hvm;obtain rfl:vm= .slice Am 0 c:=hvm;have hb:=Box.new w 34 (cells11 e (.slice Am 0 c) vb vk).toArray;have hg:=(Grew.refl w).alloc (.cells (cells11 e (.slice Am 0 c) vb vk).toArray 34);have HW:=Lib.hid (h.grew hg);have HB:=Lib.hid h.2.1;have HS:=Lib.hid (fun w' (h:WS w' base g bs)=>wrStr_any w' base g bs e.name h hl hn);have HE:=Lib.hid (And.intro hf ho);clear h hl hn hr hc hf ho;go_enter Tryz.func44,Tryz.ntmps44;go_upto_region 1 with fail;change Code.wp _ _ _ _ (w.alloc (.cells (cells11 e (.slice Am 0 c) vb vk).toArray 34));generalize w.alloc (.cells (cells11 e (.slice Am 0 c) vb vk).toArray 34)=w1 at*;have c7:w1.cell? ⟨w.heap.size,7,none⟩=some (.string e.name):=hb.cell 7;have HG:=Lib.hid hg;clear hg;go_upto_region 2 with(go_at_call 48;(with_reducible refine(HS.out _ HW.out).mono ?_);rintro e3 w4 ⟨⟨u,rfl⟩,hws,hk,hkb⟩;have HR:=Lib.hid (And.intro hws (And.intro hk hkb));clear hws hk hkb);have hb4:Box w4 w.heap.size 34 (cells11 e (.slice Am 0 c) vb vk).toArray:=HR.out.2.2 _ _ _ hb (by decide) (by decide);have c8:w4.cell? ⟨w.heap.size,8,none⟩=some (.slice Am 0 c):=hb4.cell 8;have c1:w4.cell? ⟨w.heap.size,1,none⟩=some (.int .i64 0):=by rw[←HE.out.1];exact hb4.cell 1
 have c3:w4.cell? ⟨w.heap.size,3,none⟩=some (.int .i64 0):=by rw[←HE.out.2];exact hb4.cell 3
 clear hb hb4 c7;go_wp2_with fail;go_loopw [13] (fun i wr=>i= .int .i64 0∧w4=wr) (fun _ _=>0)
 case atStart=>exact⟨rfl,rfl⟩
 case round=>
  obtain⟨rfl,rfl⟩:=hrel;go_wp2_with fail;go_end0;exact⟨⟨_,rfl⟩,HR.out.1,Keeps.then_ (Grew.keeps HG.out) HR.out.2.1 fun i _ h=>h,(KB.grew HG.out).trans HR.out.2.2⟩
end Go.Proofs.YtcimmbhdcebehaaGreatDoor
